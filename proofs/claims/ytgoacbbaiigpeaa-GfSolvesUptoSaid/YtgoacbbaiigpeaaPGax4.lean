/- Laid by a program of this session (myprint.py): Go functions as Lean functions, each with the proof that the machine comes to just these answers. -/
import Derived.Test.YtgoacbbaiigpeaaPGax0
import Derived.Test.YtgoacbbaiigpeaaPGax1
import Derived.Test.YtgoacbbaiigpeaaPGax2
import Derived.Test.YtgoacbbaiigpeaaPGax3
namespace Go.Proofs.Ytgoacbbaiigpeaa.PGa
open Go.RowKit Go.Proofs.YtgoacbbaiigpeaaW.PrintWords Go.Proofs.YtgoacbbaiigpeaaW.PrintLast Go.Proofs.YtgoacbbaiigpeaaW.PrintMore
attribute [local go_sem] max2_int min2_int max_two min_two max_three min_three max_four min_four   -- for this text's walks alone
set_option linter.unusedVariables false
set_option linter.unusedSimpArgs false

/-! ### flintlaw5_GfLaws: function 5 -/
mutual
def flintlaw5_GfLaws.j0 : Nat → Int → Int → Bool → Option (Bool)
  | 0, _, _, _ => none
  | k + 1, x0, x1, x66 => if x66 = true then (some false) else (if x1 = 0 then (flintlaw5_GfLaws.j1 k x0) else ((gf_Mul.f k x0 x1).bind fun t173 => ((gf_Div.f k t173 x1).bind fun bt174 => (if bt174.2 = 0 then (if bt174.1 = x0 then (flintlaw5_GfLaws.j1 k x0) else (some false)) else (some false)))))
def flintlaw5_GfLaws.j1 : Nat → Int → Option (Bool)
  | 0, _ => none
  | k + 1, x0 => if x0 = 0 then (some true) else ((gf_Log.f k x0).bind fun bt176 => ((gf_Pow.f k 2 bt176.1).bind fun bt178 => (if bt176.2 = 0 then (if bt178.2 = 0 then (if bt178.1 = x0 then (if bt176.1 ≥ 0 then (some (decide (bt176.1 < 255))) else (some false)) else (some false)) else (some false)) else (some false))))
end
def flintlaw5_GfLaws.f (k : Nat) (a0 : Int) (a1 : Int) (a2 : Int) : Option (Bool) := (flintlaw5_known.f k).bind fun t158 => (if t158 = true then ((gf_Mul.f k a0 a1).bind fun t159 => ((gf_Mul.f k a1 a0).bind fun t160 => (if t159 = t160 then ((gf_Mul.f k a1 a2).bind fun t161 => ((gf_Mul.f k a0 t161).bind fun t162 => ((gf_Mul.f k a0 a1).bind fun t163 => ((gf_Mul.f k t163 a2).bind fun t164 => (if t162 = t164 then ((gf_Add.f a1 a2).bind fun t165 => ((gf_Mul.f k a0 t165).bind fun t166 => ((gf_Mul.f k a0 a1).bind fun t167 => ((gf_Mul.f k a0 a2).bind fun t168 => ((gf_Add.f t167 t168).bind fun t169 => (if t166 = t169 then ((gf_Add.f a0 a0).bind fun t170 => (if t170 = 0 then ((gf_Mul.f k a0 1).bind fun t171 => (if t171 = a0 then ((gf_Mul.f k a0 0).bind fun t172 => (flintlaw5_GfLaws.j0 k a0 a1 (t172 != 0))) else (flintlaw5_GfLaws.j0 k a0 a1 true))) else (flintlaw5_GfLaws.j0 k a0 a1 true))) else (flintlaw5_GfLaws.j0 k a0 a1 true))))))) else (flintlaw5_GfLaws.j0 k a0 a1 true)))))) else (flintlaw5_GfLaws.j0 k a0 a1 true)))) else (some false))
theorem flintlaw5_GfLaws.mono_l : ∀ k, (∀ y0 y1 y2, LeO (flintlaw5_GfLaws.j0 k y0 y1 y2) (flintlaw5_GfLaws.j0 (k + 1) y0 y1 y2)) ∧ (∀ y0, LeO (flintlaw5_GfLaws.j1 k y0) (flintlaw5_GfLaws.j1 (k + 1) y0))
  | 0 => ⟨fun _ _ _ r h => by simp [flintlaw5_GfLaws.j0] at h, fun _ r h => by simp [flintlaw5_GfLaws.j1] at h⟩
  | k + 1 => by
    obtain ⟨ih0, ih1⟩ := flintlaw5_GfLaws.mono_l k
    refine ⟨?_, ?_⟩
    · intro y0 y1 y2
      unfold flintlaw5_GfLaws.j0
      repeat' first
      | (with_reducible exact ih0 _ _ _)
      | (with_reducible exact ih1 _)
      | (with_reducible exact flintlaw5_known.mono _)
      | (with_reducible exact gf_Div.mono _ _ _)
      | (with_reducible exact gf_Log.mono _ _)
      | (with_reducible exact gf_Mul.mono _ _ _)
      | (with_reducible exact gf_Pow.mono _ _ _)
      | (with_reducible exact LeO.refl _)
      | (with_reducible exact LeO.none _)
      | (with_reducible refine LeO.ite ?_ ?_)
      | (with_reducible refine LeO.bind ?_ (fun _ => ?_))
      | exact ih0 _ _ _
      | exact ih1 _
      | exact flintlaw5_known.mono _
      | exact gf_Div.mono _ _ _
      | exact gf_Log.mono _ _
      | exact gf_Mul.mono _ _ _
      | exact gf_Pow.mono _ _ _
      | exact LeO.none _
      | refine LeO.ite ?_ ?_
      | refine LeO.bind ?_ (fun _ => ?_)
    · intro y0
      unfold flintlaw5_GfLaws.j1
      repeat' first
      | (with_reducible exact ih0 _ _ _)
      | (with_reducible exact ih1 _)
      | (with_reducible exact flintlaw5_known.mono _)
      | (with_reducible exact gf_Div.mono _ _ _)
      | (with_reducible exact gf_Log.mono _ _)
      | (with_reducible exact gf_Mul.mono _ _ _)
      | (with_reducible exact gf_Pow.mono _ _ _)
      | (with_reducible exact LeO.refl _)
      | (with_reducible exact LeO.none _)
      | (with_reducible refine LeO.ite ?_ ?_)
      | (with_reducible refine LeO.bind ?_ (fun _ => ?_))
      | exact ih0 _ _ _
      | exact ih1 _
      | exact flintlaw5_known.mono _
      | exact gf_Div.mono _ _ _
      | exact gf_Log.mono _ _
      | exact gf_Mul.mono _ _ _
      | exact gf_Pow.mono _ _ _
      | exact LeO.none _
      | refine LeO.ite ?_ ?_
      | refine LeO.bind ?_ (fun _ => ?_)
theorem flintlaw5_GfLaws.mono : ∀ a0 a1 a2 k, LeO (flintlaw5_GfLaws.f k a0 a1 a2) (flintlaw5_GfLaws.f (k + 1) a0 a1 a2) := by
  intro a0 a1 a2 k
  obtain ⟨ih0, ih1⟩ := flintlaw5_GfLaws.mono_l k
  unfold flintlaw5_GfLaws.f
  repeat' first
      | (with_reducible exact ih0 _ _ _)
      | (with_reducible exact ih1 _)
      | (with_reducible exact flintlaw5_known.mono _)
      | (with_reducible exact gf_Div.mono _ _ _)
      | (with_reducible exact gf_Log.mono _ _)
      | (with_reducible exact gf_Mul.mono _ _ _)
      | (with_reducible exact gf_Pow.mono _ _ _)
      | (with_reducible exact LeO.refl _)
      | (with_reducible exact LeO.none _)
      | (with_reducible refine LeO.ite ?_ ?_)
      | (with_reducible refine LeO.bind ?_ (fun _ => ?_))
      | exact ih0 _ _ _
      | exact ih1 _
      | exact flintlaw5_known.mono _
      | exact gf_Div.mono _ _ _
      | exact gf_Log.mono _ _
      | exact gf_Mul.mono _ _ _
      | exact gf_Pow.mono _ _ _
      | exact LeO.none _
      | refine LeO.ite ?_ ?_
      | refine LeO.bind ?_ (fun _ => ?_)
set_option maxHeartbeats 8000000 in
set_option maxRecDepth 100000 in
theorem flintlaw5_GfLaws.calls (k : Nat) (a0 : Int) (a1 : Int) (a2 : Int) (r : Bool) (w : World) (h : flintlaw5_GfLaws.f k a0 a1 a2 = some r) :
    Calls Try.prog 5 #[.int .u8 a0, .int .u8 a1, .int .u8 a2] w fun e w' => e = .returned (.bool r) ∧ Below w.heap.size w w' := by
  have HB := Aside0.mk (Below.refl w.heap.size w)
  have H : ((flintlaw5_known.f k).bind fun t158 => (if t158 = true then ((gf_Mul.f k a0 a1).bind fun t159 => ((gf_Mul.f k a1 a0).bind fun t160 => (if t159 = t160 then ((gf_Mul.f k a1 a2).bind fun t161 => ((gf_Mul.f k a0 t161).bind fun t162 => ((gf_Mul.f k a0 a1).bind fun t163 => ((gf_Mul.f k t163 a2).bind fun t164 => (if t162 = t164 then ((gf_Add.f a1 a2).bind fun t165 => ((gf_Mul.f k a0 t165).bind fun t166 => ((gf_Mul.f k a0 a1).bind fun t167 => ((gf_Mul.f k a0 a2).bind fun t168 => ((gf_Add.f t167 t168).bind fun t169 => (if t166 = t169 then ((gf_Add.f a0 a0).bind fun t170 => (if t170 = 0 then ((gf_Mul.f k a0 1).bind fun t171 => (if t171 = a0 then ((gf_Mul.f k a0 0).bind fun t172 => (flintlaw5_GfLaws.j0 k a0 a1 (t172 != 0))) else (flintlaw5_GfLaws.j0 k a0 a1 true))) else (flintlaw5_GfLaws.j0 k a0 a1 true))) else (flintlaw5_GfLaws.j0 k a0 a1 true))))))) else (flintlaw5_GfLaws.j0 k a0 a1 true)))))) else (flintlaw5_GfLaws.j0 k a0 a1 true)))) else (some false))) = some r := h
  clear h
  replace H := Option.bind_eq_some_iff.mp H
  obtain ⟨t158, A40, H⟩ := H
  replace H : (if t158 = true then ((gf_Mul.f k a0 a1).bind fun t159 => ((gf_Mul.f k a1 a0).bind fun t160 => (if t159 = t160 then ((gf_Mul.f k a1 a2).bind fun t161 => ((gf_Mul.f k a0 t161).bind fun t162 => ((gf_Mul.f k a0 a1).bind fun t163 => ((gf_Mul.f k t163 a2).bind fun t164 => (if t162 = t164 then ((gf_Add.f a1 a2).bind fun t165 => ((gf_Mul.f k a0 t165).bind fun t166 => ((gf_Mul.f k a0 a1).bind fun t167 => ((gf_Mul.f k a0 a2).bind fun t168 => ((gf_Add.f t167 t168).bind fun t169 => (if t166 = t169 then ((gf_Add.f a0 a0).bind fun t170 => (if t170 = 0 then ((gf_Mul.f k a0 1).bind fun t171 => (if t171 = a0 then ((gf_Mul.f k a0 0).bind fun t172 => (flintlaw5_GfLaws.j0 k a0 a1 (t172 != 0))) else (flintlaw5_GfLaws.j0 k a0 a1 true))) else (flintlaw5_GfLaws.j0 k a0 a1 true))) else (flintlaw5_GfLaws.j0 k a0 a1 true))))))) else (flintlaw5_GfLaws.j0 k a0 a1 true)))))) else (flintlaw5_GfLaws.j0 k a0 a1 true)))) else (some false)) = some r := H
  have A4 := Aside0.mk A40
  clear A40
  by_cases c5 : t158 = true
  · subst c5
    have H1 : ((gf_Mul.f k a0 a1).bind fun t159 => ((gf_Mul.f k a1 a0).bind fun t160 => (if t159 = t160 then ((gf_Mul.f k a1 a2).bind fun t161 => ((gf_Mul.f k a0 t161).bind fun t162 => ((gf_Mul.f k a0 a1).bind fun t163 => ((gf_Mul.f k t163 a2).bind fun t164 => (if t162 = t164 then ((gf_Add.f a1 a2).bind fun t165 => ((gf_Mul.f k a0 t165).bind fun t166 => ((gf_Mul.f k a0 a1).bind fun t167 => ((gf_Mul.f k a0 a2).bind fun t168 => ((gf_Add.f t167 t168).bind fun t169 => (if t166 = t169 then ((gf_Add.f a0 a0).bind fun t170 => (if t170 = 0 then ((gf_Mul.f k a0 1).bind fun t171 => (if t171 = a0 then ((gf_Mul.f k a0 0).bind fun t172 => (flintlaw5_GfLaws.j0 k a0 a1 (t172 != 0))) else (flintlaw5_GfLaws.j0 k a0 a1 true))) else (flintlaw5_GfLaws.j0 k a0 a1 true))) else (flintlaw5_GfLaws.j0 k a0 a1 true))))))) else (flintlaw5_GfLaws.j0 k a0 a1 true)))))) else (flintlaw5_GfLaws.j0 k a0 a1 true)))) = some r := by rw [if_pos rfl] at H; exact H
    clear H
    have H := H1
    clear H1
    have HC6 := Aside0.mk H
    clear H
    go_enter Try.func5, Try.ntmps5
    go_upto_region 3 with (first | ((with_reducible refine gate_callee (f := 11) rfl ?_); refine goesL_ (some 13) rfl rfl Try.func11 (by kernel_rfl) rfl #[] rfl (by (try simp only [List.map_toArray, List.map_cons, List.map_nil]); first | done | rfl | (simp only [List.length_drop, List.length_take]; rfl)) ?_; (with_reducible refine (flintlaw5_known.calls k  true _ A4.out).mono ?_); rintro e w7 ⟨rfl, hb⟩; refine ⟨_, rfl, ?_⟩; have n0_ := Aside0.mk (below_step (by repeat (first | (with_reducible first | exact HB.out | apply below_alloc | apply pw_below_drewN | apply below_drew1) | exact HB.out)) hb); clear HB; have HB := n0_; clear n0_; (try clear hb); (try clear hb2); (try clear hk); (try clear hi)))
    (try simp only [Act.put, List.setIfInBounds_toArray, List.set_cons_zero, List.set_cons_succ])
    go_cut [66] (fun v66 wc => ∃ (kq : Nat) (x66_5 : Bool), v66 = .bool x66_5 ∧ Aside0 (flintlaw5_GfLaws.j0 kq a0 a1 x66_5 = some r) ∧ Aside0 (kq ≤ k) ∧ Aside0 (Below w.heap.size w wc))
    case first =>
      have H := HC6.out
      clear HC6
      replace H := Option.bind_eq_some_iff.mp H
      obtain ⟨t159, A80, H⟩ := H
      replace H : ((gf_Mul.f k a1 a0).bind fun t160 => (if t159 = t160 then ((gf_Mul.f k a1 a2).bind fun t161 => ((gf_Mul.f k a0 t161).bind fun t162 => ((gf_Mul.f k a0 a1).bind fun t163 => ((gf_Mul.f k t163 a2).bind fun t164 => (if t162 = t164 then ((gf_Add.f a1 a2).bind fun t165 => ((gf_Mul.f k a0 t165).bind fun t166 => ((gf_Mul.f k a0 a1).bind fun t167 => ((gf_Mul.f k a0 a2).bind fun t168 => ((gf_Add.f t167 t168).bind fun t169 => (if t166 = t169 then ((gf_Add.f a0 a0).bind fun t170 => (if t170 = 0 then ((gf_Mul.f k a0 1).bind fun t171 => (if t171 = a0 then ((gf_Mul.f k a0 0).bind fun t172 => (flintlaw5_GfLaws.j0 k a0 a1 (t172 != 0))) else (flintlaw5_GfLaws.j0 k a0 a1 true))) else (flintlaw5_GfLaws.j0 k a0 a1 true))) else (flintlaw5_GfLaws.j0 k a0 a1 true))))))) else (flintlaw5_GfLaws.j0 k a0 a1 true)))))) else (flintlaw5_GfLaws.j0 k a0 a1 true))) = some r := H
      have A8 := Aside0.mk A80
      clear A80
      replace H := Option.bind_eq_some_iff.mp H
      obtain ⟨t160, A90, H⟩ := H
      replace H : (if t159 = t160 then ((gf_Mul.f k a1 a2).bind fun t161 => ((gf_Mul.f k a0 t161).bind fun t162 => ((gf_Mul.f k a0 a1).bind fun t163 => ((gf_Mul.f k t163 a2).bind fun t164 => (if t162 = t164 then ((gf_Add.f a1 a2).bind fun t165 => ((gf_Mul.f k a0 t165).bind fun t166 => ((gf_Mul.f k a0 a1).bind fun t167 => ((gf_Mul.f k a0 a2).bind fun t168 => ((gf_Add.f t167 t168).bind fun t169 => (if t166 = t169 then ((gf_Add.f a0 a0).bind fun t170 => (if t170 = 0 then ((gf_Mul.f k a0 1).bind fun t171 => (if t171 = a0 then ((gf_Mul.f k a0 0).bind fun t172 => (flintlaw5_GfLaws.j0 k a0 a1 (t172 != 0))) else (flintlaw5_GfLaws.j0 k a0 a1 true))) else (flintlaw5_GfLaws.j0 k a0 a1 true))) else (flintlaw5_GfLaws.j0 k a0 a1 true))))))) else (flintlaw5_GfLaws.j0 k a0 a1 true)))))) else (flintlaw5_GfLaws.j0 k a0 a1 true)) = some r := H
      have A9 := Aside0.mk A90
      clear A90
      by_cases c10 : t159 = t160
      · rw [if_pos c10] at H
        have c10b0 : (t159 == t160) = true := beq_iff_eq.mpr c10
        have c10b1 : (t159 != t160) = false := bne_eq_false_iff_eq.mpr c10
        clear c10
        (first | rw [c10b0] | (simp only [i64_w, i32_w]; rw [c10b0]) | skip)
        replace H := Option.bind_eq_some_iff.mp H
        obtain ⟨t161, A110, H⟩ := H
        replace H : ((gf_Mul.f k a0 t161).bind fun t162 => ((gf_Mul.f k a0 a1).bind fun t163 => ((gf_Mul.f k t163 a2).bind fun t164 => (if t162 = t164 then ((gf_Add.f a1 a2).bind fun t165 => ((gf_Mul.f k a0 t165).bind fun t166 => ((gf_Mul.f k a0 a1).bind fun t167 => ((gf_Mul.f k a0 a2).bind fun t168 => ((gf_Add.f t167 t168).bind fun t169 => (if t166 = t169 then ((gf_Add.f a0 a0).bind fun t170 => (if t170 = 0 then ((gf_Mul.f k a0 1).bind fun t171 => (if t171 = a0 then ((gf_Mul.f k a0 0).bind fun t172 => (flintlaw5_GfLaws.j0 k a0 a1 (t172 != 0))) else (flintlaw5_GfLaws.j0 k a0 a1 true))) else (flintlaw5_GfLaws.j0 k a0 a1 true))) else (flintlaw5_GfLaws.j0 k a0 a1 true))))))) else (flintlaw5_GfLaws.j0 k a0 a1 true))))) = some r := H
        have A11 := Aside0.mk A110
        clear A110
        replace H := Option.bind_eq_some_iff.mp H
        obtain ⟨t162, A120, H⟩ := H
        replace H : ((gf_Mul.f k a0 a1).bind fun t163 => ((gf_Mul.f k t163 a2).bind fun t164 => (if t162 = t164 then ((gf_Add.f a1 a2).bind fun t165 => ((gf_Mul.f k a0 t165).bind fun t166 => ((gf_Mul.f k a0 a1).bind fun t167 => ((gf_Mul.f k a0 a2).bind fun t168 => ((gf_Add.f t167 t168).bind fun t169 => (if t166 = t169 then ((gf_Add.f a0 a0).bind fun t170 => (if t170 = 0 then ((gf_Mul.f k a0 1).bind fun t171 => (if t171 = a0 then ((gf_Mul.f k a0 0).bind fun t172 => (flintlaw5_GfLaws.j0 k a0 a1 (t172 != 0))) else (flintlaw5_GfLaws.j0 k a0 a1 true))) else (flintlaw5_GfLaws.j0 k a0 a1 true))) else (flintlaw5_GfLaws.j0 k a0 a1 true))))))) else (flintlaw5_GfLaws.j0 k a0 a1 true)))) = some r := H
        have A12 := Aside0.mk A120
        clear A120
        replace H := Option.bind_eq_some_iff.mp H
        obtain ⟨t163, A130, H⟩ := H
        obtain rfl : t159 = t163 := Option.some.inj (A8.out.symm.trans A130)
        replace H : ((gf_Mul.f k t159 a2).bind fun t164 => (if t162 = t164 then ((gf_Add.f a1 a2).bind fun t165 => ((gf_Mul.f k a0 t165).bind fun t166 => ((gf_Mul.f k a0 a1).bind fun t167 => ((gf_Mul.f k a0 a2).bind fun t168 => ((gf_Add.f t167 t168).bind fun t169 => (if t166 = t169 then ((gf_Add.f a0 a0).bind fun t170 => (if t170 = 0 then ((gf_Mul.f k a0 1).bind fun t171 => (if t171 = a0 then ((gf_Mul.f k a0 0).bind fun t172 => (flintlaw5_GfLaws.j0 k a0 a1 (t172 != 0))) else (flintlaw5_GfLaws.j0 k a0 a1 true))) else (flintlaw5_GfLaws.j0 k a0 a1 true))) else (flintlaw5_GfLaws.j0 k a0 a1 true))))))) else (flintlaw5_GfLaws.j0 k a0 a1 true))) = some r := H
        have A13 := Aside0.mk A130
        clear A130
        replace H := Option.bind_eq_some_iff.mp H
        obtain ⟨t164, A140, H⟩ := H
        replace H : (if t162 = t164 then ((gf_Add.f a1 a2).bind fun t165 => ((gf_Mul.f k a0 t165).bind fun t166 => ((gf_Mul.f k a0 a1).bind fun t167 => ((gf_Mul.f k a0 a2).bind fun t168 => ((gf_Add.f t167 t168).bind fun t169 => (if t166 = t169 then ((gf_Add.f a0 a0).bind fun t170 => (if t170 = 0 then ((gf_Mul.f k a0 1).bind fun t171 => (if t171 = a0 then ((gf_Mul.f k a0 0).bind fun t172 => (flintlaw5_GfLaws.j0 k a0 a1 (t172 != 0))) else (flintlaw5_GfLaws.j0 k a0 a1 true))) else (flintlaw5_GfLaws.j0 k a0 a1 true))) else (flintlaw5_GfLaws.j0 k a0 a1 true))))))) else (flintlaw5_GfLaws.j0 k a0 a1 true)) = some r := H
        have A14 := Aside0.mk A140
        clear A140
        by_cases c15 : t162 = t164
        · rw [if_pos c15] at H
          have c15b0 : (t162 == t164) = true := beq_iff_eq.mpr c15
          have c15b1 : (t162 != t164) = false := bne_eq_false_iff_eq.mpr c15
          clear c15
          replace H := Option.bind_eq_some_iff.mp H
          obtain ⟨t165, A160, H⟩ := H
          replace H : ((gf_Mul.f k a0 t165).bind fun t166 => ((gf_Mul.f k a0 a1).bind fun t167 => ((gf_Mul.f k a0 a2).bind fun t168 => ((gf_Add.f t167 t168).bind fun t169 => (if t166 = t169 then ((gf_Add.f a0 a0).bind fun t170 => (if t170 = 0 then ((gf_Mul.f k a0 1).bind fun t171 => (if t171 = a0 then ((gf_Mul.f k a0 0).bind fun t172 => (flintlaw5_GfLaws.j0 k a0 a1 (t172 != 0))) else (flintlaw5_GfLaws.j0 k a0 a1 true))) else (flintlaw5_GfLaws.j0 k a0 a1 true))) else (flintlaw5_GfLaws.j0 k a0 a1 true)))))) = some r := H
          have A16 := Aside0.mk A160
          clear A160
          replace H := Option.bind_eq_some_iff.mp H
          obtain ⟨t166, A170, H⟩ := H
          replace H : ((gf_Mul.f k a0 a1).bind fun t167 => ((gf_Mul.f k a0 a2).bind fun t168 => ((gf_Add.f t167 t168).bind fun t169 => (if t166 = t169 then ((gf_Add.f a0 a0).bind fun t170 => (if t170 = 0 then ((gf_Mul.f k a0 1).bind fun t171 => (if t171 = a0 then ((gf_Mul.f k a0 0).bind fun t172 => (flintlaw5_GfLaws.j0 k a0 a1 (t172 != 0))) else (flintlaw5_GfLaws.j0 k a0 a1 true))) else (flintlaw5_GfLaws.j0 k a0 a1 true))) else (flintlaw5_GfLaws.j0 k a0 a1 true))))) = some r := H
          have A17 := Aside0.mk A170
          clear A170
          replace H := Option.bind_eq_some_iff.mp H
          obtain ⟨t167, A180, H⟩ := H
          obtain rfl : t159 = t167 := Option.some.inj (A8.out.symm.trans A180)
          replace H : ((gf_Mul.f k a0 a2).bind fun t168 => ((gf_Add.f t159 t168).bind fun t169 => (if t166 = t169 then ((gf_Add.f a0 a0).bind fun t170 => (if t170 = 0 then ((gf_Mul.f k a0 1).bind fun t171 => (if t171 = a0 then ((gf_Mul.f k a0 0).bind fun t172 => (flintlaw5_GfLaws.j0 k a0 a1 (t172 != 0))) else (flintlaw5_GfLaws.j0 k a0 a1 true))) else (flintlaw5_GfLaws.j0 k a0 a1 true))) else (flintlaw5_GfLaws.j0 k a0 a1 true)))) = some r := H
          have A18 := Aside0.mk A180
          clear A180
          replace H := Option.bind_eq_some_iff.mp H
          obtain ⟨t168, A190, H⟩ := H
          replace H : ((gf_Add.f t159 t168).bind fun t169 => (if t166 = t169 then ((gf_Add.f a0 a0).bind fun t170 => (if t170 = 0 then ((gf_Mul.f k a0 1).bind fun t171 => (if t171 = a0 then ((gf_Mul.f k a0 0).bind fun t172 => (flintlaw5_GfLaws.j0 k a0 a1 (t172 != 0))) else (flintlaw5_GfLaws.j0 k a0 a1 true))) else (flintlaw5_GfLaws.j0 k a0 a1 true))) else (flintlaw5_GfLaws.j0 k a0 a1 true))) = some r := H
          have A19 := Aside0.mk A190
          clear A190
          replace H := Option.bind_eq_some_iff.mp H
          obtain ⟨t169, A200, H⟩ := H
          replace H : (if t166 = t169 then ((gf_Add.f a0 a0).bind fun t170 => (if t170 = 0 then ((gf_Mul.f k a0 1).bind fun t171 => (if t171 = a0 then ((gf_Mul.f k a0 0).bind fun t172 => (flintlaw5_GfLaws.j0 k a0 a1 (t172 != 0))) else (flintlaw5_GfLaws.j0 k a0 a1 true))) else (flintlaw5_GfLaws.j0 k a0 a1 true))) else (flintlaw5_GfLaws.j0 k a0 a1 true)) = some r := H
          have A20 := Aside0.mk A200
          clear A200
          by_cases c21 : t166 = t169
          · rw [if_pos c21] at H
            have c21b0 : (t166 == t169) = true := beq_iff_eq.mpr c21
            have c21b1 : (t166 != t169) = false := bne_eq_false_iff_eq.mpr c21
            clear c21
            replace H := Option.bind_eq_some_iff.mp H
            obtain ⟨t170, A220, H⟩ := H
            replace H : (if t170 = 0 then ((gf_Mul.f k a0 1).bind fun t171 => (if t171 = a0 then ((gf_Mul.f k a0 0).bind fun t172 => (flintlaw5_GfLaws.j0 k a0 a1 (t172 != 0))) else (flintlaw5_GfLaws.j0 k a0 a1 true))) else (flintlaw5_GfLaws.j0 k a0 a1 true)) = some r := H
            have A22 := Aside0.mk A220
            clear A220
            by_cases c23 : t170 = 0
            · rw [if_pos c23] at H
              have c23b0 : (t170 == 0) = true := beq_iff_eq.mpr c23
              have c23b1 : (t170 != 0) = false := bne_eq_false_iff_eq.mpr c23
              clear c23
              replace H := Option.bind_eq_some_iff.mp H
              obtain ⟨t171, A240, H⟩ := H
              replace H : (if t171 = a0 then ((gf_Mul.f k a0 0).bind fun t172 => (flintlaw5_GfLaws.j0 k a0 a1 (t172 != 0))) else (flintlaw5_GfLaws.j0 k a0 a1 true)) = some r := H
              have A24 := Aside0.mk A240
              clear A240
              by_cases c25 : t171 = a0
              · rw [if_pos c25] at H
                have c25b0 : (t171 == a0) = true := beq_iff_eq.mpr c25
                have c25b1 : (t171 != a0) = false := bne_eq_false_iff_eq.mpr c25
                clear c25
                replace H := Option.bind_eq_some_iff.mp H
                obtain ⟨t172, A260, H⟩ := H
                replace H : (flintlaw5_GfLaws.j0 k a0 a1 (t172 != 0)) = some r := H
                have A26 := Aside0.mk A260
                clear A260
                have H' := Aside0.mk H
                clear H
                go_wp2_with (first | ((with_reducible refine gate_callee (f := 13) rfl ?_); refine goesL_ (some 17) rfl rfl Try.func13 (by kernel_rfl) rfl #[.int .u8 a0, .int .u8 a1] rfl (by (try simp only [List.map_toArray, List.map_cons, List.map_nil]); first | done | rfl | (simp only [List.length_drop, List.length_take]; rfl)) ?_; (with_reducible refine (gf_Mul.calls k a0 a1 t159 _ A8.out).mono ?_); rintro e w' ⟨rfl, ⟨nd, rfl⟩⟩; refine ⟨_, rfl, ?_⟩) | ((with_reducible refine gate_callee (f := 13) rfl ?_); refine goesL_ (some 20) rfl rfl Try.func13 (by kernel_rfl) rfl #[.int .u8 a1, .int .u8 a0] rfl (by (try simp only [List.map_toArray, List.map_cons, List.map_nil]); first | done | rfl | (simp only [List.length_drop, List.length_take]; rfl)) ?_; (with_reducible refine (gf_Mul.calls k a1 a0 t160 _ A9.out).mono ?_); rintro e w' ⟨rfl, ⟨nd, rfl⟩⟩; refine ⟨_, rfl, ?_⟩) | (go_at_call 13; (with_reducible refine (gf_Mul.calls k a1 a2 t161 _ A11.out).mono ?_); rintro e w' ⟨rfl, ⟨nd, rfl⟩⟩) | (go_at_call 13; (with_reducible refine (gf_Mul.calls k a0 t161 t162 _ A12.out).mono ?_); rintro e w' ⟨rfl, ⟨nd, rfl⟩⟩) | (go_at_call 13; (with_reducible refine (gf_Mul.calls k a0 a1 t159 _ A13.out).mono ?_); rintro e w' ⟨rfl, ⟨nd, rfl⟩⟩) | (go_at_call 13; (with_reducible refine (gf_Mul.calls k t159 a2 t164 _ A14.out).mono ?_); rintro e w' ⟨rfl, ⟨nd, rfl⟩⟩) | (go_at_call 19; (with_reducible refine (gf_Add.calls a1 a2 t165 _ A16.out).mono ?_); rintro e w' ⟨rfl, ⟨nd, rfl⟩⟩) | (go_at_call 13; (with_reducible refine (gf_Mul.calls k a0 t165 t166 _ A17.out).mono ?_); rintro e w' ⟨rfl, ⟨nd, rfl⟩⟩) | (go_at_call 13; (with_reducible refine (gf_Mul.calls k a0 a1 t159 _ A18.out).mono ?_); rintro e w' ⟨rfl, ⟨nd, rfl⟩⟩) | (go_at_call 13; (with_reducible refine (gf_Mul.calls k a0 a2 t168 _ A19.out).mono ?_); rintro e w' ⟨rfl, ⟨nd, rfl⟩⟩) | (go_at_call 19; (with_reducible refine (gf_Add.calls t159 t168 t169 _ A20.out).mono ?_); rintro e w' ⟨rfl, ⟨nd, rfl⟩⟩) | (go_at_call 19; (with_reducible refine (gf_Add.calls a0 a0 t170 _ A22.out).mono ?_); rintro e w' ⟨rfl, ⟨nd, rfl⟩⟩) | (go_at_call 13; (with_reducible refine (gf_Mul.calls k a0 1 t171 _ A24.out).mono ?_); rintro e w' ⟨rfl, ⟨nd, rfl⟩⟩) | (go_at_call 13; (with_reducible refine (gf_Mul.calls k a0 0 t172 _ A26.out).mono ?_); rintro e w' ⟨rfl, ⟨nd, rfl⟩⟩))
                go_meet
                case rel => exact ⟨_, ((t172 != 0)), (by first | rfl | (simp; done) | (simp [*]; done)), H', ⟨by first | omega | exact Nat.le_refl _⟩, ⟨by repeat (first | (with_reducible first | exact HB.out | apply below_alloc | apply pw_below_drewN | apply below_drew1) | exact HB.out)⟩⟩
              · rw [if_neg c25] at H
                have c25b0 : (t171 == a0) = false := beq_eq_false_iff_ne.mpr c25
                have c25b1 : (t171 != a0) = true := bne_iff_ne.mpr c25
                have H' := Aside0.mk H
                clear H
                go_wp2_with (first | ((with_reducible refine gate_callee (f := 13) rfl ?_); refine goesL_ (some 17) rfl rfl Try.func13 (by kernel_rfl) rfl #[.int .u8 a0, .int .u8 a1] rfl (by (try simp only [List.map_toArray, List.map_cons, List.map_nil]); first | done | rfl | (simp only [List.length_drop, List.length_take]; rfl)) ?_; (with_reducible refine (gf_Mul.calls k a0 a1 t159 _ A8.out).mono ?_); rintro e w' ⟨rfl, ⟨nd, rfl⟩⟩; refine ⟨_, rfl, ?_⟩) | ((with_reducible refine gate_callee (f := 13) rfl ?_); refine goesL_ (some 20) rfl rfl Try.func13 (by kernel_rfl) rfl #[.int .u8 a1, .int .u8 a0] rfl (by (try simp only [List.map_toArray, List.map_cons, List.map_nil]); first | done | rfl | (simp only [List.length_drop, List.length_take]; rfl)) ?_; (with_reducible refine (gf_Mul.calls k a1 a0 t160 _ A9.out).mono ?_); rintro e w' ⟨rfl, ⟨nd, rfl⟩⟩; refine ⟨_, rfl, ?_⟩) | (go_at_call 13; (with_reducible refine (gf_Mul.calls k a1 a2 t161 _ A11.out).mono ?_); rintro e w' ⟨rfl, ⟨nd, rfl⟩⟩) | (go_at_call 13; (with_reducible refine (gf_Mul.calls k a0 t161 t162 _ A12.out).mono ?_); rintro e w' ⟨rfl, ⟨nd, rfl⟩⟩) | (go_at_call 13; (with_reducible refine (gf_Mul.calls k a0 a1 t159 _ A13.out).mono ?_); rintro e w' ⟨rfl, ⟨nd, rfl⟩⟩) | (go_at_call 13; (with_reducible refine (gf_Mul.calls k t159 a2 t164 _ A14.out).mono ?_); rintro e w' ⟨rfl, ⟨nd, rfl⟩⟩) | (go_at_call 19; (with_reducible refine (gf_Add.calls a1 a2 t165 _ A16.out).mono ?_); rintro e w' ⟨rfl, ⟨nd, rfl⟩⟩) | (go_at_call 13; (with_reducible refine (gf_Mul.calls k a0 t165 t166 _ A17.out).mono ?_); rintro e w' ⟨rfl, ⟨nd, rfl⟩⟩) | (go_at_call 13; (with_reducible refine (gf_Mul.calls k a0 a1 t159 _ A18.out).mono ?_); rintro e w' ⟨rfl, ⟨nd, rfl⟩⟩) | (go_at_call 13; (with_reducible refine (gf_Mul.calls k a0 a2 t168 _ A19.out).mono ?_); rintro e w' ⟨rfl, ⟨nd, rfl⟩⟩) | (go_at_call 19; (with_reducible refine (gf_Add.calls t159 t168 t169 _ A20.out).mono ?_); rintro e w' ⟨rfl, ⟨nd, rfl⟩⟩) | (go_at_call 19; (with_reducible refine (gf_Add.calls a0 a0 t170 _ A22.out).mono ?_); rintro e w' ⟨rfl, ⟨nd, rfl⟩⟩) | (go_at_call 13; (with_reducible refine (gf_Mul.calls k a0 1 t171 _ A24.out).mono ?_); rintro e w' ⟨rfl, ⟨nd, rfl⟩⟩))
                go_meet
                case rel => exact ⟨_, (true), (by first | rfl | (simp; done) | (simp [*]; done)), H', ⟨by first | omega | exact Nat.le_refl _⟩, ⟨by repeat (first | (with_reducible first | exact HB.out | apply below_alloc | apply pw_below_drewN | apply below_drew1) | exact HB.out)⟩⟩
            · rw [if_neg c23] at H
              have c23b0 : (t170 == 0) = false := beq_eq_false_iff_ne.mpr c23
              have c23b1 : (t170 != 0) = true := bne_iff_ne.mpr c23
              have H' := Aside0.mk H
              clear H
              go_wp2_with (first | ((with_reducible refine gate_callee (f := 13) rfl ?_); refine goesL_ (some 17) rfl rfl Try.func13 (by kernel_rfl) rfl #[.int .u8 a0, .int .u8 a1] rfl (by (try simp only [List.map_toArray, List.map_cons, List.map_nil]); first | done | rfl | (simp only [List.length_drop, List.length_take]; rfl)) ?_; (with_reducible refine (gf_Mul.calls k a0 a1 t159 _ A8.out).mono ?_); rintro e w' ⟨rfl, ⟨nd, rfl⟩⟩; refine ⟨_, rfl, ?_⟩) | ((with_reducible refine gate_callee (f := 13) rfl ?_); refine goesL_ (some 20) rfl rfl Try.func13 (by kernel_rfl) rfl #[.int .u8 a1, .int .u8 a0] rfl (by (try simp only [List.map_toArray, List.map_cons, List.map_nil]); first | done | rfl | (simp only [List.length_drop, List.length_take]; rfl)) ?_; (with_reducible refine (gf_Mul.calls k a1 a0 t160 _ A9.out).mono ?_); rintro e w' ⟨rfl, ⟨nd, rfl⟩⟩; refine ⟨_, rfl, ?_⟩) | (go_at_call 13; (with_reducible refine (gf_Mul.calls k a1 a2 t161 _ A11.out).mono ?_); rintro e w' ⟨rfl, ⟨nd, rfl⟩⟩) | (go_at_call 13; (with_reducible refine (gf_Mul.calls k a0 t161 t162 _ A12.out).mono ?_); rintro e w' ⟨rfl, ⟨nd, rfl⟩⟩) | (go_at_call 13; (with_reducible refine (gf_Mul.calls k a0 a1 t159 _ A13.out).mono ?_); rintro e w' ⟨rfl, ⟨nd, rfl⟩⟩) | (go_at_call 13; (with_reducible refine (gf_Mul.calls k t159 a2 t164 _ A14.out).mono ?_); rintro e w' ⟨rfl, ⟨nd, rfl⟩⟩) | (go_at_call 19; (with_reducible refine (gf_Add.calls a1 a2 t165 _ A16.out).mono ?_); rintro e w' ⟨rfl, ⟨nd, rfl⟩⟩) | (go_at_call 13; (with_reducible refine (gf_Mul.calls k a0 t165 t166 _ A17.out).mono ?_); rintro e w' ⟨rfl, ⟨nd, rfl⟩⟩) | (go_at_call 13; (with_reducible refine (gf_Mul.calls k a0 a1 t159 _ A18.out).mono ?_); rintro e w' ⟨rfl, ⟨nd, rfl⟩⟩) | (go_at_call 13; (with_reducible refine (gf_Mul.calls k a0 a2 t168 _ A19.out).mono ?_); rintro e w' ⟨rfl, ⟨nd, rfl⟩⟩) | (go_at_call 19; (with_reducible refine (gf_Add.calls t159 t168 t169 _ A20.out).mono ?_); rintro e w' ⟨rfl, ⟨nd, rfl⟩⟩) | (go_at_call 19; (with_reducible refine (gf_Add.calls a0 a0 t170 _ A22.out).mono ?_); rintro e w' ⟨rfl, ⟨nd, rfl⟩⟩))
              go_meet
              case rel => exact ⟨_, (true), (by first | rfl | (simp; done) | (simp [*]; done)), H', ⟨by first | omega | exact Nat.le_refl _⟩, ⟨by repeat (first | (with_reducible first | exact HB.out | apply below_alloc | apply pw_below_drewN | apply below_drew1) | exact HB.out)⟩⟩
          · rw [if_neg c21] at H
            have c21b0 : (t166 == t169) = false := beq_eq_false_iff_ne.mpr c21
            have c21b1 : (t166 != t169) = true := bne_iff_ne.mpr c21
            have H' := Aside0.mk H
            clear H
            go_wp2_with (first | ((with_reducible refine gate_callee (f := 13) rfl ?_); refine goesL_ (some 17) rfl rfl Try.func13 (by kernel_rfl) rfl #[.int .u8 a0, .int .u8 a1] rfl (by (try simp only [List.map_toArray, List.map_cons, List.map_nil]); first | done | rfl | (simp only [List.length_drop, List.length_take]; rfl)) ?_; (with_reducible refine (gf_Mul.calls k a0 a1 t159 _ A8.out).mono ?_); rintro e w' ⟨rfl, ⟨nd, rfl⟩⟩; refine ⟨_, rfl, ?_⟩) | ((with_reducible refine gate_callee (f := 13) rfl ?_); refine goesL_ (some 20) rfl rfl Try.func13 (by kernel_rfl) rfl #[.int .u8 a1, .int .u8 a0] rfl (by (try simp only [List.map_toArray, List.map_cons, List.map_nil]); first | done | rfl | (simp only [List.length_drop, List.length_take]; rfl)) ?_; (with_reducible refine (gf_Mul.calls k a1 a0 t160 _ A9.out).mono ?_); rintro e w' ⟨rfl, ⟨nd, rfl⟩⟩; refine ⟨_, rfl, ?_⟩) | (go_at_call 13; (with_reducible refine (gf_Mul.calls k a1 a2 t161 _ A11.out).mono ?_); rintro e w' ⟨rfl, ⟨nd, rfl⟩⟩) | (go_at_call 13; (with_reducible refine (gf_Mul.calls k a0 t161 t162 _ A12.out).mono ?_); rintro e w' ⟨rfl, ⟨nd, rfl⟩⟩) | (go_at_call 13; (with_reducible refine (gf_Mul.calls k a0 a1 t159 _ A13.out).mono ?_); rintro e w' ⟨rfl, ⟨nd, rfl⟩⟩) | (go_at_call 13; (with_reducible refine (gf_Mul.calls k t159 a2 t164 _ A14.out).mono ?_); rintro e w' ⟨rfl, ⟨nd, rfl⟩⟩) | (go_at_call 19; (with_reducible refine (gf_Add.calls a1 a2 t165 _ A16.out).mono ?_); rintro e w' ⟨rfl, ⟨nd, rfl⟩⟩) | (go_at_call 13; (with_reducible refine (gf_Mul.calls k a0 t165 t166 _ A17.out).mono ?_); rintro e w' ⟨rfl, ⟨nd, rfl⟩⟩) | (go_at_call 13; (with_reducible refine (gf_Mul.calls k a0 a1 t159 _ A18.out).mono ?_); rintro e w' ⟨rfl, ⟨nd, rfl⟩⟩) | (go_at_call 13; (with_reducible refine (gf_Mul.calls k a0 a2 t168 _ A19.out).mono ?_); rintro e w' ⟨rfl, ⟨nd, rfl⟩⟩) | (go_at_call 19; (with_reducible refine (gf_Add.calls t159 t168 t169 _ A20.out).mono ?_); rintro e w' ⟨rfl, ⟨nd, rfl⟩⟩))
            go_meet
            case rel => exact ⟨_, (true), (by first | rfl | (simp; done) | (simp [*]; done)), H', ⟨by first | omega | exact Nat.le_refl _⟩, ⟨by repeat (first | (with_reducible first | exact HB.out | apply below_alloc | apply pw_below_drewN | apply below_drew1) | exact HB.out)⟩⟩
        · rw [if_neg c15] at H
          have c15b0 : (t162 == t164) = false := beq_eq_false_iff_ne.mpr c15
          have c15b1 : (t162 != t164) = true := bne_iff_ne.mpr c15
          have H' := Aside0.mk H
          clear H
          go_wp2_with (first | ((with_reducible refine gate_callee (f := 13) rfl ?_); refine goesL_ (some 17) rfl rfl Try.func13 (by kernel_rfl) rfl #[.int .u8 a0, .int .u8 a1] rfl (by (try simp only [List.map_toArray, List.map_cons, List.map_nil]); first | done | rfl | (simp only [List.length_drop, List.length_take]; rfl)) ?_; (with_reducible refine (gf_Mul.calls k a0 a1 t159 _ A8.out).mono ?_); rintro e w' ⟨rfl, ⟨nd, rfl⟩⟩; refine ⟨_, rfl, ?_⟩) | ((with_reducible refine gate_callee (f := 13) rfl ?_); refine goesL_ (some 20) rfl rfl Try.func13 (by kernel_rfl) rfl #[.int .u8 a1, .int .u8 a0] rfl (by (try simp only [List.map_toArray, List.map_cons, List.map_nil]); first | done | rfl | (simp only [List.length_drop, List.length_take]; rfl)) ?_; (with_reducible refine (gf_Mul.calls k a1 a0 t160 _ A9.out).mono ?_); rintro e w' ⟨rfl, ⟨nd, rfl⟩⟩; refine ⟨_, rfl, ?_⟩) | (go_at_call 13; (with_reducible refine (gf_Mul.calls k a1 a2 t161 _ A11.out).mono ?_); rintro e w' ⟨rfl, ⟨nd, rfl⟩⟩) | (go_at_call 13; (with_reducible refine (gf_Mul.calls k a0 t161 t162 _ A12.out).mono ?_); rintro e w' ⟨rfl, ⟨nd, rfl⟩⟩) | (go_at_call 13; (with_reducible refine (gf_Mul.calls k a0 a1 t159 _ A13.out).mono ?_); rintro e w' ⟨rfl, ⟨nd, rfl⟩⟩) | (go_at_call 13; (with_reducible refine (gf_Mul.calls k t159 a2 t164 _ A14.out).mono ?_); rintro e w' ⟨rfl, ⟨nd, rfl⟩⟩))
          go_meet
          case rel => exact ⟨_, (true), (by first | rfl | (simp; done) | (simp [*]; done)), H', ⟨by first | omega | exact Nat.le_refl _⟩, ⟨by repeat (first | (with_reducible first | exact HB.out | apply below_alloc | apply pw_below_drewN | apply below_drew1) | exact HB.out)⟩⟩
      · rw [if_neg c10] at H
        have c10b0 : (t159 == t160) = false := beq_eq_false_iff_ne.mpr c10
        have c10b1 : (t159 != t160) = true := bne_iff_ne.mpr c10
        (first | rw [c10b0] | (simp only [i64_w, i32_w]; rw [c10b0]) | skip)
        have H' := Aside0.mk H
        clear H
        go_wp2_with (first | ((with_reducible refine gate_callee (f := 13) rfl ?_); refine goesL_ (some 17) rfl rfl Try.func13 (by kernel_rfl) rfl #[.int .u8 a0, .int .u8 a1] rfl (by (try simp only [List.map_toArray, List.map_cons, List.map_nil]); first | done | rfl | (simp only [List.length_drop, List.length_take]; rfl)) ?_; (with_reducible refine (gf_Mul.calls k a0 a1 t159 _ A8.out).mono ?_); rintro e w' ⟨rfl, ⟨nd, rfl⟩⟩; refine ⟨_, rfl, ?_⟩) | ((with_reducible refine gate_callee (f := 13) rfl ?_); refine goesL_ (some 20) rfl rfl Try.func13 (by kernel_rfl) rfl #[.int .u8 a1, .int .u8 a0] rfl (by (try simp only [List.map_toArray, List.map_cons, List.map_nil]); first | done | rfl | (simp only [List.length_drop, List.length_take]; rfl)) ?_; (with_reducible refine (gf_Mul.calls k a1 a0 t160 _ A9.out).mono ?_); rintro e w' ⟨rfl, ⟨nd, rfl⟩⟩; refine ⟨_, rfl, ?_⟩))
        go_meet
        case rel => exact ⟨_, (true), (by first | rfl | (simp; done) | (simp [*]; done)), H', ⟨by first | omega | exact Nat.le_refl _⟩, ⟨by repeat (first | (with_reducible first | exact HB.out | apply below_alloc | apply pw_below_drewN | apply below_drew1) | exact HB.out)⟩⟩
    case rest =>
      clear HC6
      try clear c1
      try clear c2
      try clear p2
      try clear c5
      try clear c10
      try clear c10b0
      try clear c10b1
      try clear c11
      try clear c13
      try clear c15
      try clear c15b0
      try clear c15b1
      try clear c21
      try clear c21b0
      try clear c21b1
      try clear c23
      try clear c23b0
      try clear c23b1
      try clear c25
      try clear c25b0
      try clear c25b1
      obtain ⟨kq, x66_5, rfl, HA, HJ5, HB⟩ := hcut
      cases kq with
      | zero => exact absurd HA.out (by simp [flintlaw5_GfLaws.j0])
      | succ kj5 =>
        have H := HA.out
        clear HA
        simp only [flintlaw5_GfLaws.j0] at H
        by_cases c27 : x66_5 = true
        · subst c27
          have H1 : (some false) = some r := by rw [if_pos rfl] at H; exact H
          clear H
          have H := H1
          clear H1
          obtain rfl := Option.some.inj H
          go_wp2
          go_ret
          exact ⟨by first | rfl | (simp [errW_none, errW_some] <;> rfl) | (simp [*, errW_none, errW_some] <;> rfl), by repeat (first | (with_reducible first | exact HB.out | apply below_alloc | apply pw_below_drewN | apply below_drew1) | exact HB.out)⟩
        · replace c27 := Bool.eq_false_iff.mpr c27
          subst c27
          have H1 : (if a1 = 0 then (flintlaw5_GfLaws.j1 kj5 a0) else ((gf_Mul.f kj5 a0 a1).bind fun t173 => ((gf_Div.f kj5 t173 a1).bind fun bt174 => (if bt174.2 = 0 then (if bt174.1 = a0 then (flintlaw5_GfLaws.j1 kj5 a0) else (some false)) else (some false))))) = some r := by rw [if_neg (show ¬ (false = true) by decide)] at H; exact H
          clear H
          have H := H1
          clear H1
          have HC28 := Aside0.mk H
          clear H
          go_upto_if 68 with (fail)
          go_cut [] (fun wc => ∃ (kq : Nat), Aside0 (flintlaw5_GfLaws.j1 kq a0 = some r) ∧ Aside0 (kq ≤ kj5) ∧ Aside0 (Below w.heap.size w wc))
          case first =>
            have H := HC28.out
            clear HC28
            by_cases c29 : a1 = 0
            · rw [if_pos c29] at H
              have c29b0 : (a1 == 0) = true := beq_iff_eq.mpr c29
              have c29b1 : (a1 != 0) = false := bne_eq_false_iff_eq.mpr c29
              clear c29
              (first | rw [c29b0] | (simp only [i64_w, i32_w]; rw [c29b0]) | skip)
              have H' := Aside0.mk H
              clear H
              go_wp2
              go_meet
              case rel => exact ⟨_, H', ⟨by have := HJ5.out; first | omega | exact Nat.le_refl _⟩, ⟨by repeat (first | (with_reducible first | exact HB.out | apply below_alloc | apply pw_below_drewN | apply below_drew1) | exact HB.out)⟩⟩
            · rw [if_neg c29] at H
              have c29b0 : (a1 == 0) = false := beq_eq_false_iff_ne.mpr c29
              have c29b1 : (a1 != 0) = true := bne_iff_ne.mpr c29
              (first | rw [c29b0] | (simp only [i64_w, i32_w]; rw [c29b0]) | skip)
              replace H := Option.bind_eq_some_iff.mp H
              obtain ⟨t173, A300, H⟩ := H
              replace H : ((gf_Div.f kj5 t173 a1).bind fun bt174 => (if bt174.2 = 0 then (if bt174.1 = a0 then (flintlaw5_GfLaws.j1 kj5 a0) else (some false)) else (some false))) = some r := H
              have A30 := Aside0.mk A300
              clear A300
              replace H := Option.bind_eq_some_iff.mp H
              obtain ⟨⟨t174, t175⟩, A310, H⟩ := H
              replace H : (if t175 = 0 then (if t174 = a0 then (flintlaw5_GfLaws.j1 kj5 a0) else (some false)) else (some false)) = some r := H
              have A31 := Aside0.mk A310
              clear A310
              by_cases c32 : t175 = 0
              · rw [if_pos c32] at H
                have c32b0 : (t175 == 0) = true := beq_iff_eq.mpr c32
                have c32b1 : (t175 != 0) = false := bne_eq_false_iff_eq.mpr c32
                clear c32
                by_cases c33 : t174 = a0
                · rw [if_pos c33] at H
                  have c33b0 : (t174 == a0) = true := beq_iff_eq.mpr c33
                  have c33b1 : (t174 != a0) = false := bne_eq_false_iff_eq.mpr c33
                  clear c33
                  have H' := Aside0.mk H
                  clear H
                  go_wp2_with (first | ((with_reducible refine gate_callee (f := 13) rfl ?_); refine goesL_ (some 72) rfl rfl Try.func13 (by kernel_rfl) rfl #[.int .u8 a0, .int .u8 a1] rfl (by (try simp only [List.map_toArray, List.map_cons, List.map_nil]); first | done | rfl | (simp only [List.length_drop, List.length_take]; rfl)) ?_; (with_reducible refine (gf_Mul.calls kj5 a0 a1 t173 _ A30.out).mono ?_); rintro e w' ⟨rfl, ⟨nd, rfl⟩⟩; refine ⟨_, rfl, ?_⟩) | ((with_reducible refine gate_callee (f := 15) rfl ?_); refine goesL_ (some 74) rfl rfl Try.func15 (by kernel_rfl) rfl #[.int .u8 t173, .int .u8 a1] rfl (by (try simp only [List.map_toArray, List.map_cons, List.map_nil]); first | done | rfl | (simp only [List.length_drop, List.length_take]; rfl)) ?_; (with_reducible refine (gf_Div.calls kj5 t173 a1 t174 t175 _ A31.out).mono ?_); rintro e w' ⟨rfl, ⟨nd, rfl⟩⟩; refine ⟨_, rfl, ?_⟩))
                  go_meet
                  case rel => exact ⟨_, H', ⟨by have := HJ5.out; first | omega | exact Nat.le_refl _⟩, ⟨by repeat (first | (with_reducible first | exact HB.out | apply below_alloc | apply pw_below_drewN | apply below_drew1) | exact HB.out)⟩⟩
                · rw [if_neg c33] at H
                  have c33b0 : (t174 == a0) = false := beq_eq_false_iff_ne.mpr c33
                  have c33b1 : (t174 != a0) = true := bne_iff_ne.mpr c33
                  obtain rfl := Option.some.inj H
                  go_wp2_with (first | ((with_reducible refine gate_callee (f := 13) rfl ?_); refine goesL_ (some 72) rfl rfl Try.func13 (by kernel_rfl) rfl #[.int .u8 a0, .int .u8 a1] rfl (by (try simp only [List.map_toArray, List.map_cons, List.map_nil]); first | done | rfl | (simp only [List.length_drop, List.length_take]; rfl)) ?_; (with_reducible refine (gf_Mul.calls kj5 a0 a1 t173 _ A30.out).mono ?_); rintro e w' ⟨rfl, ⟨nd, rfl⟩⟩; refine ⟨_, rfl, ?_⟩) | ((with_reducible refine gate_callee (f := 15) rfl ?_); refine goesL_ (some 74) rfl rfl Try.func15 (by kernel_rfl) rfl #[.int .u8 t173, .int .u8 a1] rfl (by (try simp only [List.map_toArray, List.map_cons, List.map_nil]); first | done | rfl | (simp only [List.length_drop, List.length_take]; rfl)) ?_; (with_reducible refine (gf_Div.calls kj5 t173 a1 t174 t175 _ A31.out).mono ?_); rintro e w' ⟨rfl, ⟨nd, rfl⟩⟩; refine ⟨_, rfl, ?_⟩))
                  go_ret
                  exact ⟨by first | rfl | (simp [errW_none, errW_some] <;> rfl) | (simp [*, errW_none, errW_some] <;> rfl), by repeat (first | (with_reducible first | exact HB.out | apply below_alloc | apply pw_below_drewN | apply below_drew1) | exact HB.out)⟩
              · rw [if_neg c32] at H
                have c32b0 : (t175 == 0) = false := beq_eq_false_iff_ne.mpr c32
                have c32b1 : (t175 != 0) = true := bne_iff_ne.mpr c32
                obtain rfl := Option.some.inj H
                go_wp2_with (first | ((with_reducible refine gate_callee (f := 13) rfl ?_); refine goesL_ (some 72) rfl rfl Try.func13 (by kernel_rfl) rfl #[.int .u8 a0, .int .u8 a1] rfl (by (try simp only [List.map_toArray, List.map_cons, List.map_nil]); first | done | rfl | (simp only [List.length_drop, List.length_take]; rfl)) ?_; (with_reducible refine (gf_Mul.calls kj5 a0 a1 t173 _ A30.out).mono ?_); rintro e w' ⟨rfl, ⟨nd, rfl⟩⟩; refine ⟨_, rfl, ?_⟩) | ((with_reducible refine gate_callee (f := 15) rfl ?_); refine goesL_ (some 74) rfl rfl Try.func15 (by kernel_rfl) rfl #[.int .u8 t173, .int .u8 a1] rfl (by (try simp only [List.map_toArray, List.map_cons, List.map_nil]); first | done | rfl | (simp only [List.length_drop, List.length_take]; rfl)) ?_; (with_reducible refine (gf_Div.calls kj5 t173 a1 t174 t175 _ A31.out).mono ?_); rintro e w' ⟨rfl, ⟨nd, rfl⟩⟩; refine ⟨_, rfl, ?_⟩))
                go_ret
                exact ⟨by first | rfl | (simp [errW_none, errW_some] <;> rfl) | (simp [*, errW_none, errW_some] <;> rfl), by repeat (first | (with_reducible first | exact HB.out | apply below_alloc | apply pw_below_drewN | apply below_drew1) | exact HB.out)⟩
          case rest =>
            clear HC28
            try clear c1
            try clear c2
            try clear p2
            try clear c3
            try clear c5
            try clear c10
            try clear c10b0
            try clear c10b1
            try clear c11
            try clear c13
            try clear c15
            try clear c15b0
            try clear c15b1
            try clear c21
            try clear c21b0
            try clear c21b1
            try clear c23
            try clear c23b0
            try clear c23b1
            try clear c25
            try clear c25b0
            try clear c25b1
            try clear c27
            try clear c29
            try clear c29b0
            try clear c29b1
            try clear c32
            try clear c32b0
            try clear c32b1
            try clear c33
            try clear c33b0
            try clear c33b1
            try clear p2
            obtain ⟨kq, HA, HJ27, HB⟩ := hcut
            cases kq with
            | zero => exact absurd HA.out (by simp [flintlaw5_GfLaws.j1])
            | succ kj27 =>
              have H := HA.out
              clear HA
              simp only [flintlaw5_GfLaws.j1] at H
              by_cases c34 : a0 = 0
              · rw [if_pos c34] at H
                have c34b0 : (a0 == 0) = true := beq_iff_eq.mpr c34
                have c34b1 : (a0 != 0) = false := bne_eq_false_iff_eq.mpr c34
                clear c34
                obtain rfl := Option.some.inj H
                go_wp2
                go_ret
                exact ⟨by first | rfl | (simp [errW_none, errW_some] <;> rfl) | (simp [*, errW_none, errW_some] <;> rfl), by repeat (first | (with_reducible first | exact HB.out | apply below_alloc | apply pw_below_drewN | apply below_drew1) | exact HB.out)⟩
              · rw [if_neg c34] at H
                have c34b0 : (a0 == 0) = false := beq_eq_false_iff_ne.mpr c34
                have c34b1 : (a0 != 0) = true := bne_iff_ne.mpr c34
                replace H := Option.bind_eq_some_iff.mp H
                obtain ⟨⟨t176, t177⟩, A350, H⟩ := H
                replace H : ((gf_Pow.f kj27 2 t176).bind fun bt178 => (if t177 = 0 then (if bt178.2 = 0 then (if bt178.1 = a0 then (if t176 ≥ 0 then (some (decide (t176 < 255))) else (some false)) else (some false)) else (some false)) else (some false))) = some r := H
                have A35 := Aside0.mk A350
                clear A350
                replace H := Option.bind_eq_some_iff.mp H
                obtain ⟨⟨t178, t179⟩, A360, H⟩ := H
                replace H : (if t177 = 0 then (if t179 = 0 then (if t178 = a0 then (if t176 ≥ 0 then (some (decide (t176 < 255))) else (some false)) else (some false)) else (some false)) else (some false)) = some r := H
                have A36 := Aside0.mk A360
                clear A360
                by_cases c37 : t177 = 0
                · rw [if_pos c37] at H
                  have c37b0 : (t177 == 0) = true := beq_iff_eq.mpr c37
                  have c37b1 : (t177 != 0) = false := bne_eq_false_iff_eq.mpr c37
                  clear c37
                  by_cases c38 : t179 = 0
                  · rw [if_pos c38] at H
                    have c38b0 : (t179 == 0) = true := beq_iff_eq.mpr c38
                    have c38b1 : (t179 != 0) = false := bne_eq_false_iff_eq.mpr c38
                    clear c38
                    by_cases c39 : t178 = a0
                    · rw [if_pos c39] at H
                      have c39b0 : (t178 == a0) = true := beq_iff_eq.mpr c39
                      have c39b1 : (t178 != a0) = false := bne_eq_false_iff_eq.mpr c39
                      clear c39
                      by_cases c40 : t176 ≥ 0
                      · rw [if_pos c40] at H
                        have c40b0 : decide (0 ≤ t176) = true := decide_eq_true c40
                        clear c40
                        obtain rfl := Option.some.inj H
                        go_wp2_with (first | ((with_reducible refine gate_callee (f := 14) rfl ?_); refine goesL_ (some 88) rfl rfl Try.func14 (by kernel_rfl) rfl #[.int .u8 a0] rfl (by (try simp only [List.map_toArray, List.map_cons, List.map_nil]); first | done | rfl | (simp only [List.length_drop, List.length_take]; rfl)) ?_; (with_reducible refine (gf_Log.calls kj27 a0 t176 t177 _ A35.out).mono ?_); rintro e w' ⟨rfl, ⟨nd, rfl⟩⟩; refine ⟨_, rfl, ?_⟩) | ((with_reducible refine gate_callee (f := 12) rfl ?_); refine goesL_ (some 93) rfl rfl Try.func12 (by kernel_rfl) rfl #[.int .u8 2, .int .i64 t176] rfl (by (try simp only [List.map_toArray, List.map_cons, List.map_nil]); first | done | rfl | (simp only [List.length_drop, List.length_take]; rfl)) ?_; (with_reducible refine (gf_Pow.calls kj27 2 t176 t178 t179 _ A36.out).mono ?_); rintro e w' ⟨rfl, ⟨nd, rfl⟩⟩; refine ⟨_, rfl, ?_⟩))
                        go_ret
                        exact ⟨by first | rfl | (simp [errW_none, errW_some] <;> rfl) | (simp [*, errW_none, errW_some] <;> rfl), by repeat (first | (with_reducible first | exact HB.out | apply below_alloc | apply pw_below_drewN | apply below_drew1) | exact HB.out)⟩
                      · rw [if_neg c40] at H
                        have c40b0 : decide (0 ≤ t176) = false := decide_eq_false c40
                        clear c40
                        obtain rfl := Option.some.inj H
                        go_wp2_with (first | ((with_reducible refine gate_callee (f := 14) rfl ?_); refine goesL_ (some 88) rfl rfl Try.func14 (by kernel_rfl) rfl #[.int .u8 a0] rfl (by (try simp only [List.map_toArray, List.map_cons, List.map_nil]); first | done | rfl | (simp only [List.length_drop, List.length_take]; rfl)) ?_; (with_reducible refine (gf_Log.calls kj27 a0 t176 t177 _ A35.out).mono ?_); rintro e w' ⟨rfl, ⟨nd, rfl⟩⟩; refine ⟨_, rfl, ?_⟩) | ((with_reducible refine gate_callee (f := 12) rfl ?_); refine goesL_ (some 93) rfl rfl Try.func12 (by kernel_rfl) rfl #[.int .u8 2, .int .i64 t176] rfl (by (try simp only [List.map_toArray, List.map_cons, List.map_nil]); first | done | rfl | (simp only [List.length_drop, List.length_take]; rfl)) ?_; (with_reducible refine (gf_Pow.calls kj27 2 t176 t178 t179 _ A36.out).mono ?_); rintro e w' ⟨rfl, ⟨nd, rfl⟩⟩; refine ⟨_, rfl, ?_⟩))
                        go_ret
                        exact ⟨by first | rfl | (simp [errW_none, errW_some] <;> rfl) | (simp [*, errW_none, errW_some] <;> rfl), by repeat (first | (with_reducible first | exact HB.out | apply below_alloc | apply pw_below_drewN | apply below_drew1) | exact HB.out)⟩
                    · rw [if_neg c39] at H
                      have c39b0 : (t178 == a0) = false := beq_eq_false_iff_ne.mpr c39
                      have c39b1 : (t178 != a0) = true := bne_iff_ne.mpr c39
                      obtain rfl := Option.some.inj H
                      go_wp2_with (first | ((with_reducible refine gate_callee (f := 14) rfl ?_); refine goesL_ (some 88) rfl rfl Try.func14 (by kernel_rfl) rfl #[.int .u8 a0] rfl (by (try simp only [List.map_toArray, List.map_cons, List.map_nil]); first | done | rfl | (simp only [List.length_drop, List.length_take]; rfl)) ?_; (with_reducible refine (gf_Log.calls kj27 a0 t176 t177 _ A35.out).mono ?_); rintro e w' ⟨rfl, ⟨nd, rfl⟩⟩; refine ⟨_, rfl, ?_⟩) | ((with_reducible refine gate_callee (f := 12) rfl ?_); refine goesL_ (some 93) rfl rfl Try.func12 (by kernel_rfl) rfl #[.int .u8 2, .int .i64 t176] rfl (by (try simp only [List.map_toArray, List.map_cons, List.map_nil]); first | done | rfl | (simp only [List.length_drop, List.length_take]; rfl)) ?_; (with_reducible refine (gf_Pow.calls kj27 2 t176 t178 t179 _ A36.out).mono ?_); rintro e w' ⟨rfl, ⟨nd, rfl⟩⟩; refine ⟨_, rfl, ?_⟩))
                      go_ret
                      exact ⟨by first | rfl | (simp [errW_none, errW_some] <;> rfl) | (simp [*, errW_none, errW_some] <;> rfl), by repeat (first | (with_reducible first | exact HB.out | apply below_alloc | apply pw_below_drewN | apply below_drew1) | exact HB.out)⟩
                  · rw [if_neg c38] at H
                    have c38b0 : (t179 == 0) = false := beq_eq_false_iff_ne.mpr c38
                    have c38b1 : (t179 != 0) = true := bne_iff_ne.mpr c38
                    obtain rfl := Option.some.inj H
                    go_wp2_with (first | ((with_reducible refine gate_callee (f := 14) rfl ?_); refine goesL_ (some 88) rfl rfl Try.func14 (by kernel_rfl) rfl #[.int .u8 a0] rfl (by (try simp only [List.map_toArray, List.map_cons, List.map_nil]); first | done | rfl | (simp only [List.length_drop, List.length_take]; rfl)) ?_; (with_reducible refine (gf_Log.calls kj27 a0 t176 t177 _ A35.out).mono ?_); rintro e w' ⟨rfl, ⟨nd, rfl⟩⟩; refine ⟨_, rfl, ?_⟩) | ((with_reducible refine gate_callee (f := 12) rfl ?_); refine goesL_ (some 93) rfl rfl Try.func12 (by kernel_rfl) rfl #[.int .u8 2, .int .i64 t176] rfl (by (try simp only [List.map_toArray, List.map_cons, List.map_nil]); first | done | rfl | (simp only [List.length_drop, List.length_take]; rfl)) ?_; (with_reducible refine (gf_Pow.calls kj27 2 t176 t178 t179 _ A36.out).mono ?_); rintro e w' ⟨rfl, ⟨nd, rfl⟩⟩; refine ⟨_, rfl, ?_⟩))
                    go_ret
                    exact ⟨by first | rfl | (simp [errW_none, errW_some] <;> rfl) | (simp [*, errW_none, errW_some] <;> rfl), by repeat (first | (with_reducible first | exact HB.out | apply below_alloc | apply pw_below_drewN | apply below_drew1) | exact HB.out)⟩
                · rw [if_neg c37] at H
                  have c37b0 : (t177 == 0) = false := beq_eq_false_iff_ne.mpr c37
                  have c37b1 : (t177 != 0) = true := bne_iff_ne.mpr c37
                  obtain rfl := Option.some.inj H
                  go_wp2_with (first | ((with_reducible refine gate_callee (f := 14) rfl ?_); refine goesL_ (some 88) rfl rfl Try.func14 (by kernel_rfl) rfl #[.int .u8 a0] rfl (by (try simp only [List.map_toArray, List.map_cons, List.map_nil]); first | done | rfl | (simp only [List.length_drop, List.length_take]; rfl)) ?_; (with_reducible refine (gf_Log.calls kj27 a0 t176 t177 _ A35.out).mono ?_); rintro e w' ⟨rfl, ⟨nd, rfl⟩⟩; refine ⟨_, rfl, ?_⟩) | ((with_reducible refine gate_callee (f := 12) rfl ?_); refine goesL_ (some 93) rfl rfl Try.func12 (by kernel_rfl) rfl #[.int .u8 2, .int .i64 t176] rfl (by (try simp only [List.map_toArray, List.map_cons, List.map_nil]); first | done | rfl | (simp only [List.length_drop, List.length_take]; rfl)) ?_; (with_reducible refine (gf_Pow.calls kj27 2 t176 t178 t179 _ A36.out).mono ?_); rintro e w' ⟨rfl, ⟨nd, rfl⟩⟩; refine ⟨_, rfl, ?_⟩))
                  go_ret
                  exact ⟨by first | rfl | (simp [errW_none, errW_some] <;> rfl) | (simp [*, errW_none, errW_some] <;> rfl), by repeat (first | (with_reducible first | exact HB.out | apply below_alloc | apply pw_below_drewN | apply below_drew1) | exact HB.out)⟩
  · replace c5 := Bool.eq_false_iff.mpr c5
    subst c5
    have H1 : (some false) = some r := by rw [if_neg (show ¬ (false = true) by decide)] at H; exact H
    clear H
    have H := H1
    clear H1
    obtain rfl := Option.some.inj H
    go_enter Try.func5, Try.ntmps5
    go_wp2_with (first | ((with_reducible refine gate_callee (f := 11) rfl ?_); refine goesL_ (some 13) rfl rfl Try.func11 (by kernel_rfl) rfl #[] rfl (by (try simp only [List.map_toArray, List.map_cons, List.map_nil]); first | done | rfl | (simp only [List.length_drop, List.length_take]; rfl)) ?_; (with_reducible refine (flintlaw5_known.calls k  false _ A4.out).mono ?_); rintro e w41 ⟨rfl, hb⟩; refine ⟨_, rfl, ?_⟩; have n0_ := Aside0.mk (below_step (by repeat (first | (with_reducible first | exact HB.out | apply below_alloc | apply pw_below_drewN | apply below_drew1) | exact HB.out)) hb); clear HB; have HB := n0_; clear n0_; (try clear hb); (try clear hb2); (try clear hk); (try clear hi)))
    go_ret
    exact ⟨by first | rfl | (simp [errW_none, errW_some] <;> rfl) | (simp [*, errW_none, errW_some] <;> rfl), by repeat (first | (with_reducible first | exact HB.out | apply below_alloc | apply pw_below_drewN | apply below_drew1) | exact HB.out)⟩

/-- THE ONE PURE STATEMENT of flintlaw5_GfLaws: yours. -/
def flintlaw5_GfLaws.Pure : Prop := ∀ (a0 : Int) (a1 : Int) (a2 : Int), (Lit.int .u8 a0).wf = true → (Lit.int .u8 a1).wf = true → (Lit.int .u8 a2).wf = true → ∃ k, flintlaw5_GfLaws.f k a0 a1 a2 = some true
theorem flintlaw5_GfLaws.walk (P : flintlaw5_GfLaws.Pure) (a0 : Int) (a1 : Int) (a2 : Int) (w : World) (w0 : (Lit.int .u8 a0).wf = true) (w1 : (Lit.int .u8 a1).wf = true) (w2 : (Lit.int .u8 a2).wf = true) :
    Calls Try.prog 5 #[.int .u8 a0, .int .u8 a1, .int .u8 a2] w fun e w' => e = .returned (.bool true) ∧ Below w.heap.size w w' := by
  obtain ⟨k, h⟩ := P a0 a1 a2 w0 w1 w2
  refine (flintlaw5_GfLaws.calls k a0 a1 a2 true w h).mono ?_
  rintro e w' ⟨rfl, hd⟩
  exact ⟨rfl, hd⟩

end Go.Proofs.Ytgoacbbaiigpeaa.PGa
