/- Laid by a program of this session (myprint.py): Go functions as Lean functions, each with the proof that the machine comes to just these answers. -/
import Derived.Test.YtacdiamflgcnbaaDoorPNax0
import Derived.Test.YtacdiamflgcnbaaDoorPNax1
import Derived.Test.YtacdiamflgcnbaaDoorPNax2
import Derived.Test.YtacdiamflgcnbaaDoorPNax9
import Derived.Test.YtacdiamflgcnbaaDoorPNax10
namespace Go.Proofs.YtacdiamflgcnbaaDoor.PNa
open Go.RowKit Go.Proofs.YtacdiamflgcnbaaDoorW.PrintWords Go.Proofs.YtacdiamflgcnbaaDoorW.PrintLast Go.Proofs.YtacdiamflgcnbaaDoorW.PrintMore
attribute [local go_sem] max2_int min2_int max_two min_two max_three min_three max_four min_four   -- for this text's walks alone
open Go.Proofs.YtacdiamflgcnbaaDoor Go.Proofs.YtacdiamflgcnbaaDoor.Nm
set_option linter.unusedVariables false
set_option linter.unusedSimpArgs false

/-! ### flintlaw2_NameOrders: function 9 -/
mutual
def flintlaw2_NameOrders.l0 : Nat → ByteArray → Int → Int → List ByteArray → Int → Int → Option (Bool)
  | 0, _, _, _, _, _, _ => none
  | k + 1, x0, x1, x2, x3, x9, x10 => if x10 < (x3.length : Int) then (if 0 ≤ x10 then (flintlaw2_NameOrders.l0 k x0 x1 x2 x3 (wrap64 (x9 + ((rdOf ByteArray.empty x3 x10).size : Int))) (wrap64 (x10 + 1))) else (none)) else (if x9 > 8192 then (flintlaw2_NameOrders.j1 k x0 x1 x2 x3 true) else (flintlaw2_NameOrders.j1 k x0 x1 x2 x3 (decide ((x3.length : Int) > 200))))
def flintlaw2_NameOrders.j1 : Nat → ByteArray → Int → Int → List ByteArray → Bool → Option (Bool)
  | 0, _, _, _, _, _ => none
  | k + 1, x0, x1, x2, x3, x40 => if x40 = true then (some true) else ((name_Key.f x0 x1).bind fun t300 => ((name_Key.f x0 x2).bind fun t301 => (if ((Op.bytesLess t300.toList t301.toList) != (decide (x1 < x2))) = true then (some false) else (flintlaw2_NameOrders.l1 k x3 (⟨#[]⟩ : ByteArray) 0))))
def flintlaw2_NameOrders.l1 : Nat → List ByteArray → ByteArray → Int → Option (Bool)
  | 0, _, _, _ => none
  | k + 1, x3, x11, x12 => if x12 < (x3.length : Int) then (if x11.size + 1 ≤ 9223372036854775807 then (if 0 ≤ x12 then ((name_Quote.f (rdOf ByteArray.empty x3 x12)).bind fun t303 => (if (x11 ++ (⟨#[32]⟩ : ByteArray)).size + t303.size ≤ 9223372036854775807 then (if ((x11 ++ (⟨#[32]⟩ : ByteArray)) ++ t303).size + 1 ≤ 9223372036854775807 then (flintlaw2_NameOrders.l1 k x3 (((x11 ++ (⟨#[32]⟩ : ByteArray)) ++ t303) ++ (⟨#[10]⟩ : ByteArray)) (wrap64 (x12 + 1))) else (none)) else (none))) else (none)) else (none)) else ((name_Words.f k x11).bind fun t304 => (if (t304.length : Int) = (x3.length : Int) then (flintlaw2_NameOrders.l2 k x3 t304 0) else (some false)))
def flintlaw2_NameOrders.l2 : Nat → List ByteArray → List ByteArray → Int → Option (Bool)
  | 0, _, _, _ => none
  | k + 1, x3, x13, x14 => if x14 < (x3.length : Int) then (if 0 ≤ x14 then (if x14 < (x13.length : Int) then ((name_Unquote.f k (rdOf ByteArray.empty x13 x14)).bind fun bt308 => (if bt308.2 = 0 then (if bt308.1.toList = (rdOf ByteArray.empty x3 x14).toList then (flintlaw2_NameOrders.l2 k x3 x13 (wrap64 (x14 + 1))) else (some false)) else (some false))) else (none)) else (none)) else (some true)
end
def flintlaw2_NameOrders.f (k : Nat) (a0 : ByteArray) (a1 : Int) (a2 : Int) (l3 : List ByteArray) : Option (Bool) := (flintlaw2_known.f k).bind fun t298 => (if t298 = true then (flintlaw2_NameOrders.l0 k a0 a1 a2 l3 (a0.size : Int) 0) else (some false))
theorem flintlaw2_NameOrders.mono_l : ∀ k, (∀ y0 y1 y2 y3 y4 y5, LeO (flintlaw2_NameOrders.l0 k y0 y1 y2 y3 y4 y5) (flintlaw2_NameOrders.l0 (k + 1) y0 y1 y2 y3 y4 y5)) ∧ (∀ y0 y1 y2 y3 y4, LeO (flintlaw2_NameOrders.j1 k y0 y1 y2 y3 y4) (flintlaw2_NameOrders.j1 (k + 1) y0 y1 y2 y3 y4)) ∧ (∀ y0 y1 y2, LeO (flintlaw2_NameOrders.l1 k y0 y1 y2) (flintlaw2_NameOrders.l1 (k + 1) y0 y1 y2)) ∧ (∀ y0 y1 y2, LeO (flintlaw2_NameOrders.l2 k y0 y1 y2) (flintlaw2_NameOrders.l2 (k + 1) y0 y1 y2))
  | 0 => ⟨fun _ _ _ _ _ _ r h => by simp [flintlaw2_NameOrders.l0] at h, fun _ _ _ _ _ r h => by simp [flintlaw2_NameOrders.j1] at h, fun _ _ _ r h => by simp [flintlaw2_NameOrders.l1] at h, fun _ _ _ r h => by simp [flintlaw2_NameOrders.l2] at h⟩
  | k + 1 => by
    obtain ⟨ih0, ih1, ih2, ih3⟩ := flintlaw2_NameOrders.mono_l k
    refine ⟨?_, ?_, ?_, ?_⟩
    · intro y0 y1 y2 y3 y4 y5
      unfold flintlaw2_NameOrders.l0
      repeat' first
      | (with_reducible exact ih0 _ _ _ _ _ _)
      | (with_reducible exact ih1 _ _ _ _ _)
      | (with_reducible exact ih2 _ _ _)
      | (with_reducible exact ih3 _ _ _)
      | (with_reducible exact flintlaw2_known.mono _)
      | (with_reducible exact name_Unquote.mono _ _)
      | (with_reducible exact name_Words.mono _ _)
      | (with_reducible exact LeO.refl _)
      | (with_reducible exact LeO.none _)
      | (with_reducible refine LeO.ite ?_ ?_)
      | (with_reducible refine LeO.bind ?_ (fun _ => ?_))
      | exact ih0 _ _ _ _ _ _
      | exact ih1 _ _ _ _ _
      | exact ih2 _ _ _
      | exact ih3 _ _ _
      | exact flintlaw2_known.mono _
      | exact name_Unquote.mono _ _
      | exact name_Words.mono _ _
      | exact LeO.none _
      | refine LeO.ite ?_ ?_
      | refine LeO.bind ?_ (fun _ => ?_)
    · intro y0 y1 y2 y3 y4
      unfold flintlaw2_NameOrders.j1
      repeat' first
      | (with_reducible exact ih0 _ _ _ _ _ _)
      | (with_reducible exact ih1 _ _ _ _ _)
      | (with_reducible exact ih2 _ _ _)
      | (with_reducible exact ih3 _ _ _)
      | (with_reducible exact flintlaw2_known.mono _)
      | (with_reducible exact name_Unquote.mono _ _)
      | (with_reducible exact name_Words.mono _ _)
      | (with_reducible exact LeO.refl _)
      | (with_reducible exact LeO.none _)
      | (with_reducible refine LeO.ite ?_ ?_)
      | (with_reducible refine LeO.bind ?_ (fun _ => ?_))
      | exact ih0 _ _ _ _ _ _
      | exact ih1 _ _ _ _ _
      | exact ih2 _ _ _
      | exact ih3 _ _ _
      | exact flintlaw2_known.mono _
      | exact name_Unquote.mono _ _
      | exact name_Words.mono _ _
      | exact LeO.none _
      | refine LeO.ite ?_ ?_
      | refine LeO.bind ?_ (fun _ => ?_)
    · intro y0 y1 y2
      unfold flintlaw2_NameOrders.l1
      repeat' first
      | (with_reducible exact ih0 _ _ _ _ _ _)
      | (with_reducible exact ih1 _ _ _ _ _)
      | (with_reducible exact ih2 _ _ _)
      | (with_reducible exact ih3 _ _ _)
      | (with_reducible exact flintlaw2_known.mono _)
      | (with_reducible exact name_Unquote.mono _ _)
      | (with_reducible exact name_Words.mono _ _)
      | (with_reducible exact LeO.refl _)
      | (with_reducible exact LeO.none _)
      | (with_reducible refine LeO.ite ?_ ?_)
      | (with_reducible refine LeO.bind ?_ (fun _ => ?_))
      | exact ih0 _ _ _ _ _ _
      | exact ih1 _ _ _ _ _
      | exact ih2 _ _ _
      | exact ih3 _ _ _
      | exact flintlaw2_known.mono _
      | exact name_Unquote.mono _ _
      | exact name_Words.mono _ _
      | exact LeO.none _
      | refine LeO.ite ?_ ?_
      | refine LeO.bind ?_ (fun _ => ?_)
    · intro y0 y1 y2
      unfold flintlaw2_NameOrders.l2
      repeat' first
      | (with_reducible exact ih0 _ _ _ _ _ _)
      | (with_reducible exact ih1 _ _ _ _ _)
      | (with_reducible exact ih2 _ _ _)
      | (with_reducible exact ih3 _ _ _)
      | (with_reducible exact flintlaw2_known.mono _)
      | (with_reducible exact name_Unquote.mono _ _)
      | (with_reducible exact name_Words.mono _ _)
      | (with_reducible exact LeO.refl _)
      | (with_reducible exact LeO.none _)
      | (with_reducible refine LeO.ite ?_ ?_)
      | (with_reducible refine LeO.bind ?_ (fun _ => ?_))
      | exact ih0 _ _ _ _ _ _
      | exact ih1 _ _ _ _ _
      | exact ih2 _ _ _
      | exact ih3 _ _ _
      | exact flintlaw2_known.mono _
      | exact name_Unquote.mono _ _
      | exact name_Words.mono _ _
      | exact LeO.none _
      | refine LeO.ite ?_ ?_
      | refine LeO.bind ?_ (fun _ => ?_)
theorem flintlaw2_NameOrders.mono : ∀ a0 a1 a2 a3 k, LeO (flintlaw2_NameOrders.f k a0 a1 a2 a3) (flintlaw2_NameOrders.f (k + 1) a0 a1 a2 a3) := by
  intro a0 a1 a2 a3 k
  obtain ⟨ih0, ih1, ih2, ih3⟩ := flintlaw2_NameOrders.mono_l k
  unfold flintlaw2_NameOrders.f
  repeat' first
      | (with_reducible exact ih0 _ _ _ _ _ _)
      | (with_reducible exact ih1 _ _ _ _ _)
      | (with_reducible exact ih2 _ _ _)
      | (with_reducible exact ih3 _ _ _)
      | (with_reducible exact flintlaw2_known.mono _)
      | (with_reducible exact name_Unquote.mono _ _)
      | (with_reducible exact name_Words.mono _ _)
      | (with_reducible exact LeO.refl _)
      | (with_reducible exact LeO.none _)
      | (with_reducible refine LeO.ite ?_ ?_)
      | (with_reducible refine LeO.bind ?_ (fun _ => ?_))
      | exact ih0 _ _ _ _ _ _
      | exact ih1 _ _ _ _ _
      | exact ih2 _ _ _
      | exact ih3 _ _ _
      | exact flintlaw2_known.mono _
      | exact name_Unquote.mono _ _
      | exact name_Words.mono _ _
      | exact LeO.none _
      | refine LeO.ite ?_ ?_
      | refine LeO.bind ?_ (fun _ => ?_)
set_option maxHeartbeats 8000000 in
set_option maxRecDepth 100000 in
theorem flintlaw2_NameOrders.calls (k : Nat) (a0 : ByteArray) (a1 : Int) (a2 : Int) (A3 : Option Addr) (c3 : Nat) (l3 : List ByteArray) (r : Bool) (w : World) (hr3 : Kd.C Kd.string w A3 l3.length l3) (hc3 : l3.length ≤ c3) (h : flintlaw2_NameOrders.f k a0 a1 a2 l3 = some r) (hT : Aside0 (Tabs w) := by first | assumption | (with_reducible repeat (first | apply tabs_drewN | apply tabs_drew | apply tabs_alloc)) <;> (first | assumption | exact tabs_step ‹_› ‹_›)) :
    Calls Tryd.prog 9 #[.string a0, .int .u64 a1, .int .u64 a2, .slice A3 l3.length c3] w fun e w' => e = .returned (.bool r) ∧ Below w.heap.size w w' := by
  have HR3 := Aside0.mk hr3
  have HC3 := Aside0.mk hc3
  clear hr3 hc3
  have HB := Aside0.mk (Below.refl w.heap.size w)
  have H : ((flintlaw2_known.f k).bind fun t298 => (if t298 = true then (flintlaw2_NameOrders.l0 k a0 a1 a2 l3 (a0.size : Int) 0) else (some false))) = some r := h
  clear h
  replace H := Option.bind_eq_some_iff.mp H
  obtain ⟨t298, A50, H⟩ := H
  replace H : (if t298 = true then (flintlaw2_NameOrders.l0 k a0 a1 a2 l3 (a0.size : Int) 0) else (some false)) = some r := H
  have A5 := Aside0.mk A50
  clear A50
  by_cases c6 : t298 = true
  · subst c6
    have H1 : (flintlaw2_NameOrders.l0 k a0 a1 a2 l3 (a0.size : Int) 0) = some r := by rw [if_pos rfl] at H; exact H
    clear H
    have H := H1
    clear H1
    have H' := Aside0.mk H
    clear H
    go_enter Tryd.func9, Tryd.ntmps9
    go_wp2_with (first | ((with_reducible refine gate_callee (f := 10) rfl ?_); refine goesL_ (some 17) rfl rfl Tryd.func10 (by kernel_rfl) rfl #[] rfl (by (try simp only [List.map_toArray, List.map_cons, List.map_nil]); first | done | rfl | (simp only [List.length_drop, List.length_take]; rfl)) ?_; (with_reducible refine (flintlaw2_known.calls k  true _ A5.out).mono ?_); rintro e w7 ⟨rfl, hb⟩; refine ⟨_, rfl, ?_⟩; have n0_ := Aside0.mk (below_step (by repeat (first | (with_reducible first | exact HB.out | apply below_alloc | apply pw_below_drewN | apply below_drew1) | exact HB.out)) hb); clear HB; have HB := n0_; clear n0_; (try clear hb); (try clear hb2); (try clear hk); (try clear hi)))
    go_loopg [9, 10] k (fun kq v9 v10 w' => ∃ (x9_1 : Int) (x10_1 : Int), v9 = .int .i64 x9_1 ∧ v10 = .int .i64 x10_1 ∧ Aside0 (flintlaw2_NameOrders.l0 kq a0 a1 a2 l3 x9_1 x10_1 = some r) ∧ Aside0 (kq ≤ k) ∧ Aside0 (Below w.heap.size w w'))
    case atStart => exact ⟨((a0.size : Int)), (0), (by first | rfl | (simp; done) | (simp [*]; done)), (by first | rfl | (simp; done) | (simp [*]; done)), H', ⟨Nat.le_refl _⟩, ⟨by repeat (first | (with_reducible first | exact HB.out | apply below_alloc | apply pw_below_drewN | apply below_drew1) | exact HB.out)⟩⟩
    case round =>
      clear H'
      try clear c1
      try clear p2
      try clear c3
      try clear c6
      obtain ⟨x9_1, x10_1, rfl, rfl, HA, HK1, HB⟩ := hrel
      cases gk with
      | zero => exact absurd HA.out (by simp [flintlaw2_NameOrders.l0])
      | succ k1 =>
        have H := HA.out
        clear HA
        simp only [flintlaw2_NameOrders.l0] at H
        by_cases c8 : x10_1 < (l3.length : Int)
        · rw [if_pos c8] at H
          have c8b0 : decide (x10_1 < (l3.length : Int)) = true := decide_eq_true c8
          clear c8
          by_cases c9 : 0 ≤ x10_1
          · rw [if_pos c9] at H
            have c9b0 : decide (0 ≤ x10_1) = true := decide_eq_true c9
            clear c9
            have H' := Aside0.mk H
            clear H
            have p299 : 0 ≤ (x10_1 : Int) := of_decide_eq_true (by first | (with_reducible assumption) | assumption)
            have q299 : x10_1 < (l3.length : Int) := of_decide_eq_true (by first | (with_reducible assumption) | assumption)
            obtain ⟨ad299, e299, hx299_0⟩ := Kd.at_string HR3.out x10_1 p299 q299
            cases e299
            replace hx299_0 := (HB.out.cell (World.block_lt_of_cell? w _ hx299_0)).trans hx299_0
            replace p299 := eq_true p299
            replace q299 := eq_true q299
            go_wp2
            go_roundg k1
            case measure => have := HK1.out; omega
            case rel => exact ⟨(wrap64 (x9_1 + ((rdOf ByteArray.empty l3 x10_1).size : Int))), (wrap64 (x10_1 + 1)), (by first | rfl | (simp; done) | (simp [*]; done)), (by first | rfl | (simp; done) | (simp [*]; done)), H', ⟨by have := HK1.out; omega⟩, ⟨by repeat (first | (with_reducible first | exact HB.out | apply below_alloc | apply pw_below_drewN | apply below_drew1) | exact HB.out)⟩⟩
          · rw [if_neg c9] at H
            exact absurd H (by simp)
        · rw [if_neg c8] at H
          have c8b0 : decide (x10_1 < (l3.length : Int)) = false := decide_eq_false c8
          clear c8
          have HC10 := Aside0.mk H
          clear H
          go_upto_region 8 with (fail)
          go_cut [40] (fun v40 wc => ∃ (kq : Nat) (x40_9 : Bool), v40 = .bool x40_9 ∧ Aside0 (flintlaw2_NameOrders.j1 kq a0 a1 a2 l3 x40_9 = some r) ∧ Aside0 (kq ≤ k1) ∧ Aside0 (Below w.heap.size w wc))
          case first =>
            have H := HC10.out
            clear HC10
            by_cases c11 : x9_1 > 8192
            · rw [if_pos c11] at H
              have c11b0 : decide (8192 < x9_1) = true := decide_eq_true c11
              clear c11
              (first | rw [c11b0] | (simp only [i64_w, i32_w]; rw [c11b0]) | skip)
              have H' := Aside0.mk H
              clear H
              go_wp2
              go_meet
              case rel => exact ⟨_, (true), (by first | rfl | (simp; done) | (simp [*]; done)), H', ⟨by have := HK1.out; first | omega | exact Nat.le_refl _⟩, ⟨by repeat (first | (with_reducible first | exact HB.out | apply below_alloc | apply pw_below_drewN | apply below_drew1) | exact HB.out)⟩⟩
            · rw [if_neg c11] at H
              have c11b0 : decide (8192 < x9_1) = false := decide_eq_false c11
              clear c11
              (first | rw [c11b0] | (simp only [i64_w, i32_w]; rw [c11b0]) | skip)
              have H' := Aside0.mk H
              clear H
              go_wp2
              go_meet
              case rel => exact ⟨_, (decide ((l3.length : Int) > 200)), (by first | rfl | (simp; done) | (simp [*]; done)), H', ⟨by have := HK1.out; first | omega | exact Nat.le_refl _⟩, ⟨by repeat (first | (with_reducible first | exact HB.out | apply below_alloc | apply pw_below_drewN | apply below_drew1) | exact HB.out)⟩⟩
          case rest =>
            clear HC10
            try clear c1
            try clear p2
            try clear q2
            try clear hx2
            try clear c3
            try clear c6
            try clear p6
            try clear c8
            try clear c8b0
            try clear c9
            try clear c9b0
            try clear c10
            try clear c11
            try clear c11b0
            try clear hx299_0
            try clear p2
            try clear p299
            try clear q299
            obtain ⟨kq, x40_9, rfl, HA, HJ9, HB⟩ := hcut
            cases kq with
            | zero => exact absurd HA.out (by simp [flintlaw2_NameOrders.j1])
            | succ kj9 =>
              have H := HA.out
              clear HA
              simp only [flintlaw2_NameOrders.j1] at H
              by_cases c12 : x40_9 = true
              · subst c12
                have H1 : (some true) = some r := by rw [if_pos rfl] at H; exact H
                clear H
                have H := H1
                clear H1
                obtain rfl := Option.some.inj H
                go_wp2
                go_ret
                exact ⟨by first | rfl | (simp [errW_none, errW_some] <;> rfl) | (simp [*, errW_none, errW_some] <;> rfl), by repeat (first | (with_reducible first | exact HB.out | apply below_alloc | apply pw_below_drewN | apply below_drew1) | exact HB.out)⟩
              · replace c12 := Bool.eq_false_iff.mpr c12
                subst c12
                have H1 : ((name_Key.f a0 a1).bind fun t300 => ((name_Key.f a0 a2).bind fun t301 => (if ((Op.bytesLess t300.toList t301.toList) != (decide (a1 < a2))) = true then (some false) else (flintlaw2_NameOrders.l1 kj9 l3 (⟨#[]⟩ : ByteArray) 0)))) = some r := by rw [if_neg (show ¬ (false = true) by decide)] at H; exact H
                clear H
                have H := H1
                clear H1
                replace H := Option.bind_eq_some_iff.mp H
                obtain ⟨t300, A130, H⟩ := H
                replace H : ((name_Key.f a0 a2).bind fun t301 => (if ((Op.bytesLess t300.toList t301.toList) != (decide (a1 < a2))) = true then (some false) else (flintlaw2_NameOrders.l1 kj9 l3 (⟨#[]⟩ : ByteArray) 0))) = some r := H
                have A13 := Aside0.mk A130
                clear A130
                replace H := Option.bind_eq_some_iff.mp H
                obtain ⟨t301, A140, H⟩ := H
                replace H : (if ((Op.bytesLess t300.toList t301.toList) != (decide (a1 < a2))) = true then (some false) else (flintlaw2_NameOrders.l1 kj9 l3 (⟨#[]⟩ : ByteArray) 0)) = some r := H
                have A14 := Aside0.mk A140
                clear A140
                by_cases c15 : ((Op.bytesLess t300.toList t301.toList) != (decide (a1 < a2))) = true
                · rw [if_pos c15] at H
                  have c15b0 : ((Op.bytesLess t300.toList t301.toList) != (decide (a1 < a2))) = true := c15
                  (try (have c15b1 : decide ((Op.bytesLess t300.toList t301.toList) = (decide (a1 < a2))) = false := by simpa using c15))
                  (try (have c15b2 : ((Op.bytesLess t300.toList t301.toList) == (decide (a1 < a2))) = false := by simpa using c15))
                  (try (have c15b3 : ¬ ((Op.bytesLess t300.toList t301.toList) = (decide (a1 < a2))) := by simpa using c15))
                  clear c15
                  obtain rfl := Option.some.inj H
                  go_wp2_with (first | ((with_reducible refine gate_callee (f := 22) rfl ?_); refine goesL_ (some 43) rfl rfl Tryd.func22 (by kernel_rfl) rfl #[.string a0, .int .u64 a1] rfl (by (try simp only [List.map_toArray, List.map_cons, List.map_nil]); first | done | rfl | (simp only [List.length_drop, List.length_take]; rfl)) ?_; (with_reducible refine (name_Key.calls a0 a1 t300 _ A13.out).mono ?_); rintro e w16 ⟨rfl, hb⟩; refine ⟨_, rfl, ?_⟩; have n0_ := Aside0.mk (below_step (by repeat (first | (with_reducible first | exact HB.out | apply below_alloc | apply pw_below_drewN | apply below_drew1) | exact HB.out)) hb); clear HB; have HB := n0_; clear n0_; (try clear hb); (try clear hb2); (try clear hk); (try clear hi)) | ((with_reducible refine gate_callee (f := 22) rfl ?_); refine goesL_ (some 46) rfl rfl Tryd.func22 (by kernel_rfl) rfl #[.string a0, .int .u64 a2] rfl (by (try simp only [List.map_toArray, List.map_cons, List.map_nil]); first | done | rfl | (simp only [List.length_drop, List.length_take]; rfl)) ?_; (with_reducible refine (name_Key.calls a0 a2 t301 _ A14.out).mono ?_); rintro e w17 ⟨rfl, hb⟩; refine ⟨_, rfl, ?_⟩; have n0_ := Aside0.mk (below_step (by repeat (first | (with_reducible first | exact HB.out | apply below_alloc | apply pw_below_drewN | apply below_drew1) | exact HB.out)) hb); clear HB; have HB := n0_; clear n0_; (try clear hb); (try clear hb2); (try clear hk); (try clear hi)))
                  go_ret
                  exact ⟨by first | rfl | (simp [errW_none, errW_some] <;> rfl) | (simp [*, errW_none, errW_some] <;> rfl), by repeat (first | (with_reducible first | exact HB.out | apply below_alloc | apply pw_below_drewN | apply below_drew1) | exact HB.out)⟩
                · rw [if_neg c15] at H
                  have c15b0 : ((Op.bytesLess t300.toList t301.toList) != (decide (a1 < a2))) = false := by simpa using c15
                  (try (have c15b1 : decide ((Op.bytesLess t300.toList t301.toList) = (decide (a1 < a2))) = true := by simpa using c15))
                  (try (have c15b2 : ((Op.bytesLess t300.toList t301.toList) == (decide (a1 < a2))) = true := by simpa using c15))
                  clear c15
                  have H' := Aside0.mk H
                  clear H
                  go_wp2_with (first | ((with_reducible refine gate_callee (f := 22) rfl ?_); refine goesL_ (some 43) rfl rfl Tryd.func22 (by kernel_rfl) rfl #[.string a0, .int .u64 a1] rfl (by (try simp only [List.map_toArray, List.map_cons, List.map_nil]); first | done | rfl | (simp only [List.length_drop, List.length_take]; rfl)) ?_; (with_reducible refine (name_Key.calls a0 a1 t300 _ A13.out).mono ?_); rintro e w18 ⟨rfl, hb⟩; refine ⟨_, rfl, ?_⟩; have n0_ := Aside0.mk (below_step (by repeat (first | (with_reducible first | exact HB.out | apply below_alloc | apply pw_below_drewN | apply below_drew1) | exact HB.out)) hb); clear HB; have HB := n0_; clear n0_; (try clear hb); (try clear hb2); (try clear hk); (try clear hi)) | ((with_reducible refine gate_callee (f := 22) rfl ?_); refine goesL_ (some 46) rfl rfl Tryd.func22 (by kernel_rfl) rfl #[.string a0, .int .u64 a2] rfl (by (try simp only [List.map_toArray, List.map_cons, List.map_nil]); first | done | rfl | (simp only [List.length_drop, List.length_take]; rfl)) ?_; (with_reducible refine (name_Key.calls a0 a2 t301 _ A14.out).mono ?_); rintro e w19 ⟨rfl, hb⟩; refine ⟨_, rfl, ?_⟩; have n0_ := Aside0.mk (below_step (by repeat (first | (with_reducible first | exact HB.out | apply below_alloc | apply pw_below_drewN | apply below_drew1) | exact HB.out)) hb); clear HB; have HB := n0_; clear n0_; (try clear hb); (try clear hb2); (try clear hk); (try clear hi)))
                  go_loopg [11, 12] kj9 (fun kq v11 v12 w' => ∃ (x11_3 : ByteArray) (x12_3 : Int), v11 = .string x11_3 ∧ v12 = .int .i64 x12_3 ∧ Aside0 (flintlaw2_NameOrders.l1 kq l3 x11_3 x12_3 = some r) ∧ Aside0 (kq ≤ kj9) ∧ Aside0 (Below w.heap.size w w'))
                  case atStart => exact ⟨((⟨#[]⟩ : ByteArray)), (0), (by first | rfl | (simp; done) | (simp [*]; done)), (by first | rfl | (simp; done) | (simp [*]; done)), H', ⟨Nat.le_refl _⟩, ⟨by repeat (first | (with_reducible first | exact HB.out | apply below_alloc | apply pw_below_drewN | apply below_drew1) | exact HB.out)⟩⟩
                  case round =>
                    clear H'
                    try clear c1
                    try clear c2
                    try clear p2
                    try clear q2
                    try clear hx2
                    try clear c3
                    try clear c6
                    try clear p6
                    try clear c8
                    try clear c8b0
                    try clear c9
                    try clear c9b0
                    try clear c10
                    try clear c11
                    try clear c11b0
                    try clear c12
                    try clear c15
                    try clear c15b0
                    try clear c15b1
                    try clear c15b2
                    try clear hx299_0
                    try clear p2
                    try clear p299
                    try clear p6
                    try clear q2
                    try clear q299
                    obtain ⟨x11_3, x12_3, rfl, rfl, HA, HK3, HB⟩ := hrel
                    cases gk with
                    | zero => exact absurd HA.out (by simp [flintlaw2_NameOrders.l1])
                    | succ k3 =>
                      have H := HA.out
                      clear HA
                      simp only [flintlaw2_NameOrders.l1] at H
                      by_cases c20 : x12_3 < (l3.length : Int)
                      · rw [if_pos c20] at H
                        have c20b0 : decide (x12_3 < (l3.length : Int)) = true := decide_eq_true c20
                        clear c20
                        by_cases c21 : x11_3.size + 1 ≤ 9223372036854775807
                        · rw [if_pos c21] at H
                          have c21b0 := eq_true c21
                          have c21b1 : decide (x11_3.size + 1 ≤ 9223372036854775807) = true := decide_eq_true c21
                          try have c21b2 : (9223372036854775807 < x11_3.size + 1) = False := eq_false (Nat.not_lt.2 c21)
                          by_cases c22 : 0 ≤ x12_3
                          · rw [if_pos c22] at H
                            have c22b0 : decide (0 ≤ x12_3) = true := decide_eq_true c22
                            clear c22
                            replace H := Option.bind_eq_some_iff.mp H
                            obtain ⟨t303, A230, H⟩ := H
                            replace H : (if (x11_3 ++ (⟨#[32]⟩ : ByteArray)).size + t303.size ≤ 9223372036854775807 then (if ((x11_3 ++ (⟨#[32]⟩ : ByteArray)) ++ t303).size + 1 ≤ 9223372036854775807 then (flintlaw2_NameOrders.l1 k3 l3 (((x11_3 ++ (⟨#[32]⟩ : ByteArray)) ++ t303) ++ (⟨#[10]⟩ : ByteArray)) (wrap64 (x12_3 + 1))) else (none)) else (none)) = some r := H
                            have A23 := Aside0.mk A230
                            clear A230
                            by_cases c24 : (x11_3 ++ (⟨#[32]⟩ : ByteArray)).size + t303.size ≤ 9223372036854775807
                            · rw [if_pos c24] at H
                              have c24b0 := eq_true c24
                              have c24b1 : decide ((x11_3 ++ (⟨#[32]⟩ : ByteArray)).size + t303.size ≤ 9223372036854775807) = true := decide_eq_true c24
                              try have c24b2 : (9223372036854775807 < (x11_3 ++ (⟨#[32]⟩ : ByteArray)).size + t303.size) = False := eq_false (Nat.not_lt.2 c24)
                              by_cases c25 : ((x11_3 ++ (⟨#[32]⟩ : ByteArray)) ++ t303).size + 1 ≤ 9223372036854775807
                              · rw [if_pos c25] at H
                                have c25b0 := eq_true c25
                                have c25b1 : decide (((x11_3 ++ (⟨#[32]⟩ : ByteArray)) ++ t303).size + 1 ≤ 9223372036854775807) = true := decide_eq_true c25
                                try have c25b2 : (9223372036854775807 < ((x11_3 ++ (⟨#[32]⟩ : ByteArray)) ++ t303).size + 1) = False := eq_false (Nat.not_lt.2 c25)
                                have H' := Aside0.mk H
                                clear H
                                have p302 : 0 ≤ (x12_3 : Int) := of_decide_eq_true (by first | (with_reducible assumption) | assumption)
                                have q302 : x12_3 < (l3.length : Int) := of_decide_eq_true (by first | (with_reducible assumption) | assumption)
                                obtain ⟨ad302, e302, hx302_0⟩ := Kd.at_string HR3.out x12_3 p302 q302
                                cases e302
                                replace hx302_0 := (HB.out.cell (World.block_lt_of_cell? w _ hx302_0)).trans hx302_0
                                replace p302 := eq_true p302
                                replace q302 := eq_true q302
                                have z1_ : (x11_3 ++ (⟨#[32]⟩ : ByteArray)).size = x11_3.size + 1 := by rw [ByteArray.size_append]; rfl
                                have z2_ : ((x11_3 ++ (⟨#[32]⟩ : ByteArray)) ++ t303).size = x11_3.size + 1 + t303.size := by rw [ByteArray.size_append, z1_]
                                have g1_ : x11_3.size + 1 + t303.size ≤ 9223372036854775807 := by rw [← z1_]; exact c24
                                have g2_ : x11_3.size + 1 + t303.size + 1 ≤ 9223372036854775807 := by rw [← z2_]; exact c25
                                have g3_ : (9223372036854775807 < x11_3.size + 1 + t303.size) = False := eq_false (Nat.not_lt.2 g1_)
                                have g4_ : (9223372036854775807 < x11_3.size + 1 + t303.size + 1) = False := eq_false (Nat.not_lt.2 g2_)
                                go_wp2_with (first | ((with_reducible refine gate_callee (f := 21) rfl ?_); refine goesL_ (some 64) rfl rfl Tryd.func21 (by kernel_rfl) rfl #[.string (rdOf ByteArray.empty l3 x12_3)] rfl (by (try simp only [List.map_toArray, List.map_cons, List.map_nil]); first | done | rfl | (simp only [List.length_drop, List.length_take]; rfl)) ?_; (with_reducible refine (name_Quote.calls (rdOf ByteArray.empty l3 x12_3) t303 _ A23.out).mono ?_); rintro e w26 ⟨rfl, hb⟩; refine ⟨_, rfl, ?_⟩; have n0_ := Aside0.mk (below_step (by repeat (first | (with_reducible first | exact HB.out | apply below_alloc | apply pw_below_drewN | apply below_drew1) | exact HB.out)) hb); clear HB; have HB := n0_; clear n0_; (try clear hb); (try clear hb2); (try clear hk); (try clear hi)))
                                go_roundg k3
                                case measure => have := HK1.out; have := HJ9.out; have := HK3.out; omega
                                case rel => exact ⟨(((x11_3 ++ (⟨#[32]⟩ : ByteArray)) ++ t303) ++ (⟨#[10]⟩ : ByteArray)), (wrap64 (x12_3 + 1)), (by first | rfl | (simp; done) | (simp [*]; done)), (by first | rfl | (simp; done) | (simp [*]; done)), H', ⟨by have := HK1.out; have := HJ9.out; have := HK3.out; omega⟩, ⟨by repeat (first | (with_reducible first | exact HB.out | apply below_alloc | apply pw_below_drewN | apply below_drew1) | exact HB.out)⟩⟩
                              · rw [if_neg c25] at H
                                exact absurd H (by simp)
                            · rw [if_neg c24] at H
                              exact absurd H (by simp)
                          · rw [if_neg c22] at H
                            exact absurd H (by simp)
                        · rw [if_neg c21] at H
                          exact absurd H (by simp)
                      · rw [if_neg c20] at H
                        have c20b0 : decide (x12_3 < (l3.length : Int)) = false := decide_eq_false c20
                        clear c20
                        replace H := Option.bind_eq_some_iff.mp H
                        obtain ⟨t304, A270, H⟩ := H
                        replace H : (if (t304.length : Int) = (l3.length : Int) then (flintlaw2_NameOrders.l2 k3 l3 t304 0) else (some false)) = some r := H
                        have A27 := Aside0.mk A270
                        clear A270
                        by_cases c28 : (t304.length : Int) = (l3.length : Int)
                        · rw [if_pos c28] at H
                          have c28b0 : ((t304.length : Int) == (l3.length : Int)) = true := beq_iff_eq.mpr c28
                          have c28b1 : ((t304.length : Int) != (l3.length : Int)) = false := bne_eq_false_iff_eq.mpr c28
                          have c28b2 : (t304.length == l3.length) = true := by first | simpa using c28 | (simp at c28 ⊢; omega)
                          clear c28
                          have H' := Aside0.mk H
                          clear H
                          go_wp2_with (first | ((with_reducible refine gate_callee (f := 11) rfl ?_); refine goesL_ (some 68) rfl rfl Tryd.func11 (by kernel_rfl) rfl #[.string x11_3] rfl (by (try simp only [List.map_toArray, List.map_cons, List.map_nil]); first | done | rfl | (simp only [List.length_drop, List.length_take]; rfl)) ?_; (with_reducible refine (name_Words.calls k3 x11_3 t304 _ A27.out).mono ?_); rintro e w29 ⟨v305, rfl, ho0, hb⟩; refine ⟨_, rfl, ?_⟩; have n0_ := Aside0.mk (Kd.R_lower ho0 (below_size (by repeat (first | (with_reducible first | exact HB.out | apply below_alloc | apply pw_below_drewN | apply below_drew1) | exact HB.out)))); have n1_ := Aside0.mk (below_step (by repeat (first | (with_reducible first | exact HB.out | apply below_alloc | apply pw_below_drewN | apply below_drew1) | exact HB.out)) hb); clear HB; have HO306 := n0_; have HB := n1_; clear n0_ n1_; (try clear hb); (try clear hb2); (try clear hk); (try clear hi); (try clear ho0); obtain ⟨Ao30, co30, eo30⟩ := Kd.R_slice HO306.out; subst eo30))
                          go_loopg [14] k3 (fun kq v14 w' => ∃ (x14_4 : Int), v14 = .int .i64 x14_4 ∧ Aside0 (flintlaw2_NameOrders.l2 kq l3 t304 x14_4 = some r) ∧ Aside0 (kq ≤ k3) ∧ Aside0 (Kd.R Kd.string 9 w' w.heap.size (fun _ => True) (.slice Ao30 t304.length co30) t304) ∧ Aside0 (Below w.heap.size w w'))
                          case atStart => exact ⟨(0), (by first | rfl | (simp; done) | (simp [*]; done)), H', ⟨Nat.le_refl _⟩, ⟨by (with_reducible repeat (first | apply Kd.R_alloc | apply Kd.R_drewN | apply Kd.R_drew)); exact HO306.out⟩, ⟨by repeat (first | (with_reducible first | exact HB.out | apply below_alloc | apply pw_below_drewN | apply below_drew1) | exact HB.out)⟩⟩
                          case round =>
                            clear H'
                            try clear c1
                            try clear c2
                            try clear p2
                            try clear q2
                            try clear hx2
                            try clear c3
                            try clear p3
                            try clear q3
                            try clear hx3
                            try clear c6
                            try clear p6
                            try clear c8
                            try clear c8b0
                            try clear c9
                            try clear c9b0
                            try clear c10
                            try clear c11
                            try clear c11b0
                            try clear c12
                            try clear c15
                            try clear c15b0
                            try clear c15b1
                            try clear c15b2
                            try clear c20
                            try clear c20b0
                            try clear c21
                            try clear c21b0
                            try clear c21b1
                            try clear c21b2
                            try clear c22
                            try clear c22b0
                            try clear c24
                            try clear c24b0
                            try clear c24b1
                            try clear c24b2
                            try clear c25
                            try clear c25b0
                            try clear c25b1
                            try clear c25b2
                            try clear c28
                            try clear c28b0
                            try clear c28b1
                            try clear c28b2
                            try clear p29
                            try clear q29
                            try clear hx29
                            try clear p30
                            try clear q30
                            try clear hx30
                            try clear hx299_0
                            try clear hx302_0
                            try clear p2
                            try clear p299
                            try clear p302
                            try clear p6
                            try clear q2
                            try clear q299
                            try clear q302
                            obtain ⟨x14_4, rfl, HA, HK4, HO_13, HB⟩ := hrel
                            cases gk with
                            | zero => exact absurd HA.out (by simp [flintlaw2_NameOrders.l2])
                            | succ k4 =>
                              have H := HA.out
                              clear HA
                              simp only [flintlaw2_NameOrders.l2] at H
                              by_cases c31 : x14_4 < (l3.length : Int)
                              · rw [if_pos c31] at H
                                have c31b0 : decide (x14_4 < (l3.length : Int)) = true := decide_eq_true c31
                                clear c31
                                by_cases c32 : 0 ≤ x14_4
                                · rw [if_pos c32] at H
                                  have c32b0 : decide (0 ≤ x14_4) = true := decide_eq_true c32
                                  clear c32
                                  by_cases c33 : x14_4 < (t304.length : Int)
                                  · rw [if_pos c33] at H
                                    have c33b0 : decide (x14_4 < (t304.length : Int)) = true := decide_eq_true c33
                                    clear c33
                                    replace H := Option.bind_eq_some_iff.mp H
                                    obtain ⟨⟨t308, t309⟩, A340, H⟩ := H
                                    replace H : (if t309 = 0 then (if t308.toList = (rdOf ByteArray.empty l3 x14_4).toList then (flintlaw2_NameOrders.l2 k4 l3 t304 (wrap64 (x14_4 + 1))) else (some false)) else (some false)) = some r := H
                                    have A34 := Aside0.mk A340
                                    clear A340
                                    by_cases c35 : t309 = 0
                                    · rw [if_pos c35] at H
                                      have c35b0 : (t309 == 0) = true := beq_iff_eq.mpr c35
                                      have c35b1 : (t309 != 0) = false := bne_eq_false_iff_eq.mpr c35
                                      clear c35
                                      by_cases c36 : t308.toList = (rdOf ByteArray.empty l3 x14_4).toList
                                      · rw [if_pos c36] at H
                                        have c36b0 : (t308.toList == (rdOf ByteArray.empty l3 x14_4).toList) = true := beq_iff_eq.mpr c36
                                        have c36b1 : (t308.toList != (rdOf ByteArray.empty l3 x14_4).toList) = false := bne_eq_false_iff_eq.mpr c36
                                        clear c36
                                        have H' := Aside0.mk H
                                        clear H
                                        have p307 : 0 ≤ (x14_4 : Int) := of_decide_eq_true (by first | (with_reducible assumption) | assumption)
                                        have q307 : x14_4 < (t304.length : Int) := of_decide_eq_true (by first | (with_reducible assumption) | assumption)
                                        obtain ⟨ad307, e307, hx307_0⟩ := Kd.at_string (Kd.R_reads' HO_13.out).2.2 x14_4 p307 q307
                                        cases e307
                                        replace p307 := eq_true p307
                                        replace q307 := eq_true q307
                                        go_wp2_with (first | ((with_reducible refine gate_callee (f := 26) rfl ?_); refine goesL_ (some 85) rfl rfl Tryd.func26 (by kernel_rfl) rfl #[.string (rdOf ByteArray.empty t304 x14_4)] rfl (by (try simp only [List.map_toArray, List.map_cons, List.map_nil]); first | done | rfl | (simp only [List.length_drop, List.length_take]; rfl)) ?_; (with_reducible refine (name_Unquote.calls k4 (rdOf ByteArray.empty t304 x14_4) t308 t309 _ A34.out).mono ?_); rintro e w37 ⟨rfl, hb⟩; refine ⟨_, rfl, ?_⟩; have n0_ := Aside0.mk (Kd.R_below (by (with_reducible repeat (first | apply Kd.R_alloc | apply Kd.R_drewN | apply Kd.R_drew)); exact HO_13.out) hb); have n1_ := Aside0.mk (below_step (by repeat (first | (with_reducible first | exact HB.out | apply below_alloc | apply pw_below_drewN | apply below_drew1) | exact HB.out)) hb); clear HO_13; clear HB; have HO_13 := n0_; have HB := n1_; clear n0_ n1_; (try clear hb); (try clear hb2); (try clear hk); (try clear hi); have p310 : 0 ≤ (x14_4 : Int) := of_decide_eq_true (by first | (with_reducible assumption) | assumption); have q310 : x14_4 < (l3.length : Int) := of_decide_eq_true (by first | (with_reducible assumption) | assumption); obtain ⟨ad310, e310, hx310_0⟩ := Kd.at_string HR3.out x14_4 p310 q310; cases e310; replace hx310_0 := (HB.out.cell (World.block_lt_of_cell? w _ hx310_0)).trans hx310_0; replace p310 := eq_true p310; replace q310 := eq_true q310))
                                        go_roundg k4
                                        case measure => have := HK1.out; have := HJ9.out; have := HK3.out; have := HK4.out; omega
                                        case rel => exact ⟨(wrap64 (x14_4 + 1)), (by first | rfl | (simp; done) | (simp [*]; done)), H', ⟨by have := HK1.out; have := HJ9.out; have := HK3.out; have := HK4.out; omega⟩, ⟨by (with_reducible repeat (first | apply Kd.R_alloc | apply Kd.R_drewN | apply Kd.R_drew)); exact HO_13.out⟩, ⟨by repeat (first | (with_reducible first | exact HB.out | apply below_alloc | apply pw_below_drewN | apply below_drew1) | exact HB.out)⟩⟩
                                      · rw [if_neg c36] at H
                                        have c36b0 : (t308.toList == (rdOf ByteArray.empty l3 x14_4).toList) = false := beq_eq_false_iff_ne.mpr c36
                                        have c36b1 : (t308.toList != (rdOf ByteArray.empty l3 x14_4).toList) = true := bne_iff_ne.mpr c36
                                        obtain rfl := Option.some.inj H
                                        have p307 : 0 ≤ (x14_4 : Int) := of_decide_eq_true (by first | (with_reducible assumption) | assumption)
                                        have q307 : x14_4 < (t304.length : Int) := of_decide_eq_true (by first | (with_reducible assumption) | assumption)
                                        obtain ⟨ad307, e307, hx307_0⟩ := Kd.at_string (Kd.R_reads' HO_13.out).2.2 x14_4 p307 q307
                                        cases e307
                                        replace p307 := eq_true p307
                                        replace q307 := eq_true q307
                                        go_wp2_with (first | ((with_reducible refine gate_callee (f := 26) rfl ?_); refine goesL_ (some 85) rfl rfl Tryd.func26 (by kernel_rfl) rfl #[.string (rdOf ByteArray.empty t304 x14_4)] rfl (by (try simp only [List.map_toArray, List.map_cons, List.map_nil]); first | done | rfl | (simp only [List.length_drop, List.length_take]; rfl)) ?_; (with_reducible refine (name_Unquote.calls k4 (rdOf ByteArray.empty t304 x14_4) t308 t309 _ A34.out).mono ?_); rintro e w38 ⟨rfl, hb⟩; refine ⟨_, rfl, ?_⟩; have n0_ := Aside0.mk (Kd.R_below (by (with_reducible repeat (first | apply Kd.R_alloc | apply Kd.R_drewN | apply Kd.R_drew)); exact HO_13.out) hb); have n1_ := Aside0.mk (below_step (by repeat (first | (with_reducible first | exact HB.out | apply below_alloc | apply pw_below_drewN | apply below_drew1) | exact HB.out)) hb); clear HO_13; clear HB; have HO_13 := n0_; have HB := n1_; clear n0_ n1_; (try clear hb); (try clear hb2); (try clear hk); (try clear hi); have p310 : 0 ≤ (x14_4 : Int) := of_decide_eq_true (by first | (with_reducible assumption) | assumption); have q310 : x14_4 < (l3.length : Int) := of_decide_eq_true (by first | (with_reducible assumption) | assumption); obtain ⟨ad310, e310, hx310_0⟩ := Kd.at_string HR3.out x14_4 p310 q310; cases e310; replace hx310_0 := (HB.out.cell (World.block_lt_of_cell? w _ hx310_0)).trans hx310_0; replace p310 := eq_true p310; replace q310 := eq_true q310))
                                        go_ret
                                        exact ⟨by first | rfl | (simp [errW_none, errW_some] <;> rfl) | (simp [*, errW_none, errW_some] <;> rfl), by repeat (first | (with_reducible first | exact HB.out | apply below_alloc | apply pw_below_drewN | apply below_drew1) | exact HB.out)⟩
                                    · rw [if_neg c35] at H
                                      have c35b0 : (t309 == 0) = false := beq_eq_false_iff_ne.mpr c35
                                      have c35b1 : (t309 != 0) = true := bne_iff_ne.mpr c35
                                      obtain rfl := Option.some.inj H
                                      have p307 : 0 ≤ (x14_4 : Int) := of_decide_eq_true (by first | (with_reducible assumption) | assumption)
                                      have q307 : x14_4 < (t304.length : Int) := of_decide_eq_true (by first | (with_reducible assumption) | assumption)
                                      obtain ⟨ad307, e307, hx307_0⟩ := Kd.at_string (Kd.R_reads' HO_13.out).2.2 x14_4 p307 q307
                                      cases e307
                                      replace p307 := eq_true p307
                                      replace q307 := eq_true q307
                                      go_wp2_with (first | ((with_reducible refine gate_callee (f := 26) rfl ?_); refine goesL_ (some 85) rfl rfl Tryd.func26 (by kernel_rfl) rfl #[.string (rdOf ByteArray.empty t304 x14_4)] rfl (by (try simp only [List.map_toArray, List.map_cons, List.map_nil]); first | done | rfl | (simp only [List.length_drop, List.length_take]; rfl)) ?_; (with_reducible refine (name_Unquote.calls k4 (rdOf ByteArray.empty t304 x14_4) t308 t309 _ A34.out).mono ?_); rintro e w39 ⟨rfl, hb⟩; refine ⟨_, rfl, ?_⟩; have n0_ := Aside0.mk (Kd.R_below (by (with_reducible repeat (first | apply Kd.R_alloc | apply Kd.R_drewN | apply Kd.R_drew)); exact HO_13.out) hb); have n1_ := Aside0.mk (below_step (by repeat (first | (with_reducible first | exact HB.out | apply below_alloc | apply pw_below_drewN | apply below_drew1) | exact HB.out)) hb); clear HO_13; clear HB; have HO_13 := n0_; have HB := n1_; clear n0_ n1_; (try clear hb); (try clear hb2); (try clear hk); (try clear hi)))
                                      go_ret
                                      exact ⟨by first | rfl | (simp [errW_none, errW_some] <;> rfl) | (simp [*, errW_none, errW_some] <;> rfl), by repeat (first | (with_reducible first | exact HB.out | apply below_alloc | apply pw_below_drewN | apply below_drew1) | exact HB.out)⟩
                                  · rw [if_neg c33] at H
                                    exact absurd H (by simp)
                                · rw [if_neg c32] at H
                                  exact absurd H (by simp)
                              · rw [if_neg c31] at H
                                have c31b0 : decide (x14_4 < (l3.length : Int)) = false := decide_eq_false c31
                                clear c31
                                obtain rfl := Option.some.inj H
                                go_wp2
                                go_ret
                                exact ⟨by first | rfl | (simp [errW_none, errW_some] <;> rfl) | (simp [*, errW_none, errW_some] <;> rfl), by repeat (first | (with_reducible first | exact HB.out | apply below_alloc | apply pw_below_drewN | apply below_drew1) | exact HB.out)⟩
                        · rw [if_neg c28] at H
                          have c28b0 : ((t304.length : Int) == (l3.length : Int)) = false := beq_eq_false_iff_ne.mpr c28
                          have c28b1 : ((t304.length : Int) != (l3.length : Int)) = true := bne_iff_ne.mpr c28
                          have c28b2 : (t304.length == l3.length) = false := by first | simpa using c28 | (simp at c28 ⊢; omega)
                          obtain rfl := Option.some.inj H
                          go_wp2_with (first | ((with_reducible refine gate_callee (f := 11) rfl ?_); refine goesL_ (some 68) rfl rfl Tryd.func11 (by kernel_rfl) rfl #[.string x11_3] rfl (by (try simp only [List.map_toArray, List.map_cons, List.map_nil]); first | done | rfl | (simp only [List.length_drop, List.length_take]; rfl)) ?_; (with_reducible refine (name_Words.calls k3 x11_3 t304 _ A27.out).mono ?_); rintro e w40 ⟨v305, rfl, ho0, hb⟩; refine ⟨_, rfl, ?_⟩; have n0_ := Aside0.mk (Kd.R_lower ho0 (below_size (by repeat (first | (with_reducible first | exact HB.out | apply below_alloc | apply pw_below_drewN | apply below_drew1) | exact HB.out)))); have n1_ := Aside0.mk (below_step (by repeat (first | (with_reducible first | exact HB.out | apply below_alloc | apply pw_below_drewN | apply below_drew1) | exact HB.out)) hb); clear HB; have HO306 := n0_; have HB := n1_; clear n0_ n1_; (try clear hb); (try clear hb2); (try clear hk); (try clear hi); (try clear ho0); obtain ⟨Ao41, co41, eo41⟩ := Kd.R_slice HO306.out; subst eo41))
                          go_ret
                          exact ⟨by first | rfl | (simp [errW_none, errW_some] <;> rfl) | (simp [*, errW_none, errW_some] <;> rfl), by repeat (first | (with_reducible first | exact HB.out | apply below_alloc | apply pw_below_drewN | apply below_drew1) | exact HB.out)⟩
  · replace c6 := Bool.eq_false_iff.mpr c6
    subst c6
    have H1 : (some false) = some r := by rw [if_neg (show ¬ (false = true) by decide)] at H; exact H
    clear H
    have H := H1
    clear H1
    obtain rfl := Option.some.inj H
    go_enter Tryd.func9, Tryd.ntmps9
    go_wp2_with (first | ((with_reducible refine gate_callee (f := 10) rfl ?_); refine goesL_ (some 17) rfl rfl Tryd.func10 (by kernel_rfl) rfl #[] rfl (by (try simp only [List.map_toArray, List.map_cons, List.map_nil]); first | done | rfl | (simp only [List.length_drop, List.length_take]; rfl)) ?_; (with_reducible refine (flintlaw2_known.calls k  false _ A5.out).mono ?_); rintro e w42 ⟨rfl, hb⟩; refine ⟨_, rfl, ?_⟩; have n0_ := Aside0.mk (below_step (by repeat (first | (with_reducible first | exact HB.out | apply below_alloc | apply pw_below_drewN | apply below_drew1) | exact HB.out)) hb); clear HB; have HB := n0_; clear n0_; (try clear hb); (try clear hb2); (try clear hk); (try clear hi)))
    go_ret
    exact ⟨by first | rfl | (simp [errW_none, errW_some] <;> rfl) | (simp [*, errW_none, errW_some] <;> rfl), by repeat (first | (with_reducible first | exact HB.out | apply below_alloc | apply pw_below_drewN | apply below_drew1) | exact HB.out)⟩

end Go.Proofs.YtacdiamflgcnbaaDoor.PNa
