/-
  The reference's printed Times, Apply, Rows tell what the program's tell.
-/
import Derived.Test.YtgoacbbaiigpeaaMGex
import Derived.Test.YtgoacbbaiigpeaaGbFacts
set_option linter.unusedVariables false
set_option linter.unusedSimpArgs false
namespace Go.Proofs.Ytgoacbbaiigpeaa.Pure
open Go.RowKit Go.Proofs.Ytgoacbbaiigpeaa Go.Proofs.Ytgoacbbaiigpeaa.PGa Go.Proofs.Ytgoacbbaiigpeaa.PGb Go.Proofs.Ytgoacbbaiigpeaa.PGe Go.Proofs.YtgoacbbaiigpeaaW.PrintWords Go.Proofs.YtgoacbbaiigpeaaW.PrintLast Go.Proofs.Ytgoacbbaiigpeaa.GbFacts
open Go.Proofs.Ytgoacbbaiigpeaa.Gf

theorem wf_byte {x : Int} (h : (Lit.int .u8 x).wf = true) : 0 ≤ x ∧ x < 256 := by
  obtain ⟨n, hn, rfl⟩ := GaFacts.byte h
  omega
theorem okB_of {l : List (List Int)} (h : ∀ r ∈ l, ∀ x ∈ r, (Lit.int .u8 x).wf = true) : okB l = true := by
  unfold okB
  simp only [List.all_eq_true]
  intro r hr x hx
  have := wf_byte (h r hr x hx)
  simp [this]
theorem okV_of {v : List Int} (h : ∀ x ∈ v, (Lit.int .u8 x).wf = true) : okV v = true := by
  unfold okV
  simp only [List.all_eq_true]
  intro x hx
  have := wf_byte (h x hx)
  simp [this]
/-- From some number of rounds on. -/
def Ev {α : Type} (f : Nat → α) (r : α) : Prop := ∃ K, ∀ k, K ≤ k → f k = r
theorem Ev.up {α : Type} {f g : Nat → α} {r : α} (c : Nat) (h : Ev f r) (e : ∀ k, c ≤ k → g (k + 1) = f k) : Ev g r := by
  obtain ⟨K, hK⟩ := h
  refine ⟨K + c + 1, fun k hk => ?_⟩
  obtain ⟨k, rfl⟩ : ∃ m, k = m + 1 := ⟨k - 1, by omega⟩
  rw [e k (by omega), hK k (by omega)]
theorem Ev.of {α : Type} {g : Nat → α} {r : α} (c : Nat) (e : ∀ k, c ≤ k → g (k + 1) = r) : Ev g r := by
  refine ⟨c + 1, fun k hk => ?_⟩
  obtain ⟨k, rfl⟩ : ∃ m, k = m + 1 := ⟨k - 1, by omega⟩
  exact e k (by omega)
theorem right_facts {l : List (List Int)} (h : rightB l = true) : 1 ≤ l.length ∧ l.length ≤ 255 ∧ 1 ≤ (row l 0).length ∧ (row l 0).length ≤ 255 ∧ ∀ i, i < l.length → (row l i).length = (row l 0).length := by
  simp only [rightB, Bool.and_eq_true, decide_eq_true_eq, Bool.not_eq_true', List.any_eq_false, List.mem_range, ne_eq, Decidable.not_not] at h
  exact ⟨h.1, h.2.1, h.2.2.1, h.2.2.2.1, h.2.2.2.2⟩
theorem rdl (l : List (List Int)) (i : Nat) : PGe.rd_L2 l (i : Int) = row l i := by unfold PGe.rd_L2 row; rw [Int.toNat_natCast]
theorem rdl0 (l : List (List Int)) : PGe.rd_L2 l 0 = row l 0 := rfl
theorem rdb {l : List (List Int)} (ok : okB l = true) (i j : Nat) : rd (row l i) (j : Int) = ((byt l i j : Nat) : Int) := by
  unfold rd
  rw [Int.toNat_natCast]
  exact (okB_at ok i j).2
theorem rdv {v : List Int} (ok : okV v = true) (j : Nat) : rd v (j : Int) = ((vb v j : Nat) : Int) := by
  unfold rd
  rw [Int.toNat_natCast]
  exact (okV_at ok j).2
theorem rd_map {c j : Nat} {f : Nat → Int} (h : j < c) : rd ((List.range c).map f) (j : Int) = f j := by
  unfold rd
  simp [List.getD, h]

section
variable (lm lo : List (List Int))
def T (i j t p q : Nat) : Nat := if p = i ∧ q = j then sx t (fun s => GfM.M (byt lm i s) (byt lo s j)) else if p < i ∨ (p = i ∧ q < j) then prod lm lo p q else 0
def MT (f : Nat → Nat → Nat) : List (List Int) := matrix lm.length (row lo 0).length fun p q => ((f p q : Nat) : Int)
variable (hm : rightB lm = true) (ho : rightB lo = true) (okm : okB lm = true) (oko : okB lo = true) (he : (row lm 0).length = lo.length)
include hm ho okm oko he
theorem times_l2 {i j : Nat} (hi : i < lm.length) (hj : j < (row lo 0).length) {R : Option (List (List Int) × Int)} (hR : Ev (fun k => flintref5_Times.l1 k lm lo (MT lm lo (T lm lo i j lo.length)) i ((j + 1 : Nat) : Int)) R) :
    ∀ d t, d + t = lo.length → Ev (fun k => flintref5_Times.l2 k lm lo (MT lm lo (T lm lo i j t)) i j t) R := by
  obtain ⟨m1, m2, m3, m4, m5⟩ := right_facts hm
  obtain ⟨o1, o2, o3, o4, o5⟩ := right_facts ho
  intro d
  induction d with
  | zero =>
    intro t ht
    refine hR.up 0 fun k _ => ?_
    simp only [flintref5_Times.l2]
    rw [if_neg (by omega), wrap_inc _ (by omega) (by omega), show t = lo.length by omega]
    rfl
  | succ d ih =>
    intro t ht
    refine (ih (t + 1) (by omega)).up 9 fun k hk => ?_
    have hx := sx_lt t (fun s => GfM.M (byt lm i s) (byt lo s j)) (fun s _ => GfM.M_lt _ _ (okB_at okm i s).1)
    have hml := GfM.M_lt _ (byt lo t j) (okB_at okm i t).1
    have e0 : PGe.rd_L2 (MT lm lo (T lm lo i j t)) (i : Int) = (List.range (row lo 0).length).map fun q => ((T lm lo i j t i q : Nat) : Int) := by
      rw [rdl]; exact rd_matrix hi
    simp only [flintref5_Times.l2]
    rw [e0, rdl, rdl]
    rw [if_pos (by omega), if_pos (by omega), if_pos (by unfold MT; rw [matrix_length]; omega), if_pos (by omega), if_pos (by simp; omega), if_pos (by omega), if_pos (by omega), if_pos (by rw [m5 i hi]; omega), if_pos (by rw [o5 t (by omega)]; omega)]
    rw [rdb okm, rdb oko, GaFacts.rmul_ok k _ _ (by omega) (okB_at okm i t).1 (okB_at oko t j).1, rd_map hj]
    simp only [Option.bind_some]
    have e1 : T lm lo i j t i j = sx t (fun s => GfM.M (byt lm i s) (byt lo s j)) := by unfold T; rw [if_pos ⟨rfl, rfl⟩]
    rw [e1, xor_nat _ _ hx hml, wrap_inc _ (by omega) (by omega), Int.toNat_natCast, Int.toNat_natCast]
    unfold MT
    rw [matrix_set (f := fun p q => ((T lm lo i j t p q : Nat) : Int))]
    congr 1
    refine matrix_congr fun p q _ _ => ?_
    by_cases e : p = i ∧ q = j
    · rw [if_pos e]; unfold T; rw [if_pos e]; rfl
    · rw [if_neg e]; unfold T; rw [if_neg e, if_neg e]
theorem times_l1 {i : Nat} (hi : i < lm.length) {R : Option (List (List Int) × Int)} (hR : Ev (fun k => flintref5_Times.l0 k lm lo (MT lm lo (T lm lo (i + 1) 0 0)) ((i + 1 : Nat) : Int)) R) :
    ∀ d j, d + j = (row lo 0).length → Ev (fun k => flintref5_Times.l1 k lm lo (MT lm lo (T lm lo i j 0)) i j) R := by
  obtain ⟨m1, m2, m3, m4, m5⟩ := right_facts hm
  obtain ⟨o1, o2, o3, o4, o5⟩ := right_facts ho
  intro d
  induction d with
  | zero =>
    intro j hj
    refine hR.up 0 fun k _ => ?_
    simp only [flintref5_Times.l1]
    rw [rdl0, if_pos (by omega), if_neg (by omega), wrap_inc _ (by omega) (by omega)]
    have e : MT lm lo (T lm lo i j 0) = MT lm lo (T lm lo (i + 1) 0 0) := by
      refine matrix_congr fun p q hp hq => ?_
      congr 1
      unfold T
      simp only [sx]
      by_cases a : p < i + 1
      · rw [if_neg (by omega), if_pos (by omega), if_neg (by omega), if_pos (by omega)]
      · rw [if_neg (by omega), if_neg (by omega)]
        split
        · rfl
        · rw [if_neg (by omega)]
    rw [e]
    rfl
  | succ d ih =>
    intro j hj
    have h2 := times_l2 lm lo hm ho okm oko he hi (show j < (row lo 0).length by omega) (R := R) ?_ lo.length 0 (by omega)
    · refine h2.up 0 fun k _ => ?_
      simp only [flintref5_Times.l1]
      rw [rdl0, if_pos (by omega), if_pos (by omega)]
      rfl
    · have e : MT lm lo (T lm lo i j lo.length) = MT lm lo (T lm lo i (j + 1) 0) := by
        refine matrix_congr fun p q hp hq => ?_
        congr 1
        unfold T
        simp only [sx]
        by_cases a : p = i ∧ q = j
        · rw [if_pos a, if_neg (by omega), if_pos (by omega)]
          obtain ⟨rfl, rfl⟩ := a
          rfl
        · rw [if_neg a]
          by_cases b : p < i ∨ (p = i ∧ q < j)
          · rw [if_pos b, if_neg (by omega), if_pos (by omega)]
          · rw [if_neg b]
            split
            · rfl
            · rw [if_neg (by omega)]
      rw [e]
      exact ih (j + 1) (by omega)
theorem times_l0 : ∀ d i, d + i = lm.length → Ev (fun k => flintref5_Times.l0 k lm lo (MT lm lo (T lm lo i 0 0)) i) (some (matrix lm.length (row lo 0).length (fun i j => ((prod lm lo i j : Nat) : Int)), 0)) := by
  obtain ⟨m1, m2, m3, m4, m5⟩ := right_facts hm
  intro d
  induction d with
  | zero =>
    intro i hi
    refine Ev.of 0 fun k _ => ?_
    simp only [flintref5_Times.l0]
    rw [if_neg (by omega)]
    congr 2
    refine matrix_congr fun p q hp hq => ?_
    congr 1
    unfold T
    rw [if_neg (by omega), if_pos (by omega)]
  | succ d ih =>
    intro i hi
    refine (times_l1 lm lo hm ho okm oko he (show i < lm.length by omega) (ih (i + 1) (by omega)) _ 0 rfl).up 0 fun k _ => ?_
    simp only [flintref5_Times.l0]
    rw [if_pos (by omega)]
    rfl
end
theorem times_ok (lm lo : List (List Int)) (okm : okB lm = true) (oko : okB lo = true) : Ev (fun k => flintref5_Times.f k lm lo) (timesF lm lo) := by
  unfold timesF
  rw [if_pos ⟨okm, oko⟩]
  by_cases hm : rightB lm = true
  rotate_left
  · rw [if_neg (fun h => hm h.1)]
    refine Ev.of 400 fun k hk => ?_
    unfold flintref5_Times.f
    rw [right_ok _ _ (by omega), Bool.eq_false_iff.2 hm]
    simp [flintref5_Times.j0]
  by_cases ho : rightB lo = true
  rotate_left
  · rw [if_neg (fun h => ho h.2.1)]
    refine Ev.of 400 fun k hk => ?_
    unfold flintref5_Times.f
    rw [right_ok _ _ (by omega), hm, right_ok _ _ (by omega), Bool.eq_false_iff.2 ho]
    simp [flintref5_Times.j0]
  obtain ⟨m1, m2, m3, m4, m5⟩ := right_facts hm
  obtain ⟨o1, o2, o3, o4, o5⟩ := right_facts ho
  by_cases he : (row lm 0).length = lo.length
  · rw [if_pos ⟨hm, ho, he⟩]
    refine (times_l0 lm lo hm ho okm oko he lm.length 0 rfl).up 400 fun k hk => ?_
    unfold flintref5_Times.f
    rw [right_ok _ _ (by omega), hm, right_ok _ _ (by omega), ho]
    simp only [Option.bind_some, if_true]
    rw [if_pos (by omega), rdl0, show (((row lm 0).length : Int) != (lo.length : Int)) = false by simp [he]]
    simp only [flintref5_Times.j0]
    rw [if_neg (by decide), if_pos (by omega), rdl0, blank_ok _ _ _ (by omega) (by omega) (by omega)]
    simp only [Option.bind_some]
    congr 1
    refine matrix_congr fun p q hp hq => ?_
    unfold T
    simp only [sx]
    split
    · rfl
    · rw [if_neg (by omega)]; rfl
  · rw [if_neg (fun h => he h.2.2)]
    refine Ev.of 400 fun k hk => ?_
    unfold flintref5_Times.f
    rw [right_ok _ _ (by omega), hm, right_ok _ _ (by omega), ho]
    simp only [Option.bind_some, if_true]
    rw [if_pos (by omega), rdl0, show (((row lm 0).length : Int) != (lo.length : Int)) = true by simp; omega]
    simp [flintref5_Times.j0]
section
variable (l : List (List Int)) (v : List Int)
def Tv (i t p : Nat) : Nat := if p = i then sx t (fun s => GfM.M (byt l i s) (vb v s)) else if p < i then mv v.length (byt l) (vb v) p else 0
def MV (f : Nat → Nat) : List Int := (List.range l.length).map fun p => ((f p : Nat) : Int)
theorem MV_congr {f g : Nat → Nat} (h : ∀ p, p < l.length → f p = g p) : MV l f = MV l g := by
  unfold MV
  apply List.map_congr_left
  intro p hp
  rw [h p (by simpa using hp)]
variable (hm : rightB l = true) (okm : okB l = true) (okv : okV v = true) (he : v.length = (row l 0).length)
include hm okm okv he
theorem apply_l1 {i : Nat} (hi : i < l.length) {R : Option (List Int × Int)} (hR : Ev (fun k => flintref5_Apply.l0 k l v (MV l (Tv l v i v.length)) ((i + 1 : Nat) : Int)) R) :
    ∀ d t, d + t = v.length → Ev (fun k => flintref5_Apply.l1 k l v (MV l (Tv l v i t)) i t) R := by
  obtain ⟨m1, m2, m3, m4, m5⟩ := right_facts hm
  intro d
  induction d with
  | zero =>
    intro t ht
    refine hR.up 0 fun k _ => ?_
    simp only [flintref5_Apply.l1]
    rw [if_neg (by omega), wrap_inc _ (by omega) (by omega), show t = v.length by omega]
    rfl
  | succ d ih =>
    intro t ht
    refine (ih (t + 1) (by omega)).up 9 fun k hk => ?_
    have hx := sx_lt t (fun s => GfM.M (byt l i s) (vb v s)) (fun s _ => GfM.M_lt _ _ (okB_at okm i s).1)
    have hml := GfM.M_lt _ (vb v t) (okB_at okm i t).1
    simp only [flintref5_Apply.l1]
    rw [rdl]
    rw [if_pos (by omega), if_pos (by omega), if_pos (by simp [MV]; omega), if_pos (by omega), if_pos (by omega), if_pos (by rw [m5 i hi]; omega)]
    rw [rdb okm, rdv okv, GaFacts.rmul_ok k _ _ (by omega) (okB_at okm i t).1 (okV_at okv t).1]
    simp only [Option.bind_some]
    have e1 : rd (MV l (Tv l v i t)) (i : Int) = ((sx t (fun s => GfM.M (byt l i s) (vb v s)) : Nat) : Int) := by
      unfold MV
      rw [rd_map hi]
      unfold Tv; rw [if_pos rfl]
    rw [e1, xor_nat _ _ hx hml, wrap_inc _ (by omega) (by omega), Int.toNat_natCast]
    unfold MV
    rw [map_set]
    congr 1
    apply List.map_congr_left
    intro p hp
    by_cases e : p = i
    · rw [if_pos e]; unfold Tv; rw [if_pos e]; rfl
    · rw [if_neg e]; unfold Tv; rw [if_neg e, if_neg e]
theorem apply_l0 : ∀ d i, d + i = l.length → Ev (fun k => flintref5_Apply.l0 k l v (MV l (Tv l v i 0)) i) (some ((List.range l.length).map (fun i => ((mv v.length (byt l) (vb v) i : Nat) : Int)), 0)) := by
  obtain ⟨m1, m2, m3, m4, m5⟩ := right_facts hm
  intro d
  induction d with
  | zero =>
    intro i hi
    refine Ev.of 0 fun k _ => ?_
    simp only [flintref5_Apply.l0]
    rw [if_neg (by omega)]
    congr 2
    refine MV_congr l fun p hp => ?_
    unfold Tv
    rw [if_neg (by omega), if_pos (by omega)]
  | succ d ih =>
    intro i hi
    refine (apply_l1 l v hm okm okv he (show i < l.length by omega) ?_ _ 0 rfl).up 0 fun k _ => ?_
    rotate_left
    · simp only [flintref5_Apply.l0]
      rw [if_pos (by omega)]
      rfl
    · have e : MV l (Tv l v i v.length) = MV l (Tv l v (i + 1) 0) := MV_congr l fun p hp => by
        unfold Tv
        simp only [sx]
        by_cases a : p = i
        · rw [if_pos a, if_neg (by omega), if_pos (by omega)]; subst a; rfl
        · rw [if_neg a]
          by_cases b : p < i
          · rw [if_pos b, if_neg (by omega), if_pos (by omega)]
          · rw [if_neg b]
            split
            · rfl
            · rw [if_neg (by omega)]
      rw [e]
      exact ih (i + 1) (by omega)
end
theorem apply_ok (l : List (List Int)) (v : List Int) (okm : okB l = true) (okv : okV v = true) : Ev (fun k => flintref5_Apply.f k l v) (applyF l v) := by
  unfold applyF
  rw [if_pos ⟨okm, okv⟩]
  by_cases hm : rightB l = true
  rotate_left
  · rw [if_neg (fun h => hm h.1)]
    refine Ev.of 400 fun k hk => ?_
    unfold flintref5_Apply.f
    rw [right_ok _ _ (by omega), Bool.eq_false_iff.2 hm]
    simp [flintref5_Apply.j0]
  obtain ⟨m1, m2, m3, m4, m5⟩ := right_facts hm
  by_cases he : v.length = (row l 0).length
  · rw [if_pos ⟨hm, he⟩]
    refine (apply_l0 l v hm okm okv he l.length 0 rfl).up 400 fun k hk => ?_
    unfold flintref5_Apply.f
    rw [right_ok _ _ (by omega), hm]
    simp only [Option.bind_some, if_true]
    rw [if_pos (by omega), rdl0, show ((v.length : Int) != ((row l 0).length : Int)) = false by simp [he]]
    simp only [flintref5_Apply.j0]
    rw [if_neg (by decide), if_pos (by omega), Int.toNat_natCast, if_pos (by omega)]
    congr 1
    apply List.ext_getElem
    · simp [MV]
    · intro p h1 h2
      simp [MV] at h2
      simp [MV, Tv, sx]
  · rw [if_neg (fun h => he h.2)]
    refine Ev.of 400 fun k hk => ?_
    unfold flintref5_Apply.f
    rw [right_ok _ _ (by omega), hm]
    simp only [Option.bind_some, if_true]
    rw [if_pos (by omega), rdl0, show ((v.length : Int) != ((row l 0).length : Int)) = true by simp; omega]
    simp [flintref5_Apply.j0]
theorem row_list {l : List (List Int)} (ok : okB l = true) (i c : Nat) (hc : (row l i).length = c) : row l i = (List.range c).map fun j => ((byt l i j : Nat) : Int) := by
  subst hc
  apply List.ext_getElem
  · simp
  · intro k h1 h2
    have := (okB_at ok i k).2
    simp only [List.getElem_map, List.getElem_range]
    rw [← this]
    simp [List.getD, h1]
section
variable (l : List (List Int)) (ns : List Int) (hm : rightB l = true) (okm : okB l = true) (hn : ns.length ≤ 255)
include hm okm hn
theorem rows_l0 : ∀ d i, d + i = ns.length → (∀ q, q < i → outB l.length (ns.getD q 0) = false) → Ev (fun k => flintref5_Rows.l0 k l ns (matrix i (row l 0).length (fun i j => ((byt l (ns.getD i 0).toNat j : Nat) : Int))) i)
    (if anyOut l.length ns = false then some (matrix ns.length (row l 0).length (fun i j => ((byt l (ns.getD i 0).toNat j : Nat) : Int)), 0) else some ([], 1)) := by
  obtain ⟨m1, m2, m3, m4, m5⟩ := right_facts hm
  intro d
  induction d with
  | zero =>
    intro i hi hq
    refine Ev.of 0 fun k _ => ?_
    simp only [flintref5_Rows.l0]
    obtain rfl : i = ns.length := by omega
    rw [if_neg (by omega), if_pos]
    unfold anyOut
    simp only [List.any_eq_false, List.mem_range, Bool.not_eq_true]
    exact hq
  | succ d ih =>
    intro i hi hq
    have er : rd ns (i : Int) = ns.getD i 0 := by unfold rd; rw [Int.toNat_natCast]
    by_cases ho : outB l.length (ns.getD i 0) = true
    · refine Ev.of 0 fun k _ => ?_
      have ha : ¬ anyOut l.length ns = false := by
        unfold anyOut
        simp only [List.any_eq_false, List.mem_range, Bool.not_eq_true]
        intro h
        rw [h i (by omega)] at ho
        cases ho
      rw [if_neg ha]
      simp only [flintref5_Rows.l0]
      rw [if_pos (by omega), if_pos (by omega), er]
      unfold outB at ho
      simp only [Bool.or_eq_true, decide_eq_true_eq] at ho
      by_cases h1 : ns.getD i 0 < 0
      · rw [if_pos h1]
      · rw [if_neg h1, if_pos (by omega)]
    · refine (ih (i + 1) (by omega) (fun q hq' => ?_)).up 0 fun k _ => ?_
      · by_cases e : q = i
        · rw [e]; simpa using ho
        · exact hq q (by omega)
      · unfold outB at ho
        simp only [Bool.or_eq_true, decide_eq_true_eq] at ho
        simp only [flintref5_Rows.l0]
        rw [if_pos (by omega), if_pos (by omega), er, if_neg (by omega), if_neg (by omega)]
        simp only [Option.bind_some, List.nil_append]
        have e2 : PGe.rd_L2 l (ns.getD i 0) = row l (ns.getD i 0).toNat := rfl
        have e3 := m5 (ns.getD i 0).toNat (by omega)
        rw [e2, if_pos (by omega), if_pos (by omega), if_pos (by rw [List.length_nil, e3]; omega), if_pos (by rw [matrix_length]; omega), wrap_inc _ (by omega) (by omega), matrix_succ, row_list okm _ _ e3]
        rfl
end
theorem rrows_ok (l : List (List Int)) (ns : List Int) (okm : okB l = true) : Ev (fun k => flintref5_Rows.f k l ns) (rowsF l ns) := by
  unfold rowsF
  rw [if_pos okm]
  by_cases hm : rightB l = true
  rotate_left
  · rw [if_neg (fun h => hm h.1)]
    refine Ev.of 400 fun k hk => ?_
    unfold flintref5_Rows.f
    rw [right_ok _ _ (by omega), Bool.eq_false_iff.2 hm]
    simp [flintref5_Rows.j0]
  by_cases h1 : 1 ≤ ns.length
  rotate_left
  · rw [if_neg (fun h => h1 h.2.1)]
    refine Ev.of 400 fun k hk => ?_
    unfold flintref5_Rows.f
    rw [right_ok _ _ (by omega), hm]
    simp only [Option.bind_some, if_true]
    rw [if_pos (by omega)]
    simp [flintref5_Rows.j0]
  by_cases h2 : ns.length ≤ 255
  rotate_left
  · rw [if_neg (fun h => h2 h.2.2.1)]
    refine Ev.of 400 fun k hk => ?_
    unfold flintref5_Rows.f
    rw [right_ok _ _ (by omega), hm]
    simp only [Option.bind_some, if_true]
    rw [if_neg (by omega), decide_eq_true (by omega)]
    simp [flintref5_Rows.j0]
  have h := rows_l0 l ns hm okm h2 ns.length 0 rfl (fun q hq => by omega)
  have e : (if rightB l = true ∧ 1 ≤ ns.length ∧ ns.length ≤ 255 ∧ anyOut l.length ns = false then some (matrix ns.length (row l 0).length (fun i j => ((byt l (ns.getD i 0).toNat j : Nat) : Int)), (0 : Int)) else some ([], 1)) = if anyOut l.length ns = false then some (matrix ns.length (row l 0).length (fun i j => ((byt l (ns.getD i 0).toNat j : Nat) : Int)), (0 : Int)) else some ([], 1) := by
    by_cases a : anyOut l.length ns = false
    · rw [if_pos ⟨hm, h1, h2, a⟩, if_pos a]
    · rw [if_neg (fun h => a h.2.2.2), if_neg a]
  rw [e]
  obtain ⟨K, hK⟩ := h
  refine ⟨K + 402, fun k hk => ?_⟩
  obtain ⟨k, rfl⟩ : ∃ m, k = m + 1 := ⟨k - 1, by omega⟩
  show flintref5_Rows.f (k + 1) l ns = _
  unfold flintref5_Rows.f
  rw [right_ok _ _ (by omega), hm]
  simp only [Option.bind_some, if_true]
  rw [if_neg (by omega), decide_eq_false (by omega)]
  simp only [flintref5_Rows.j0]
  rw [if_neg (by decide)]
  exact hK k (by omega)
/-! the answers are short -/
theorem timesF_some (l o : List (List Int)) (h1 : okB l = true) (h2 : okB o = true) : ∃ r, timesF l o = some r ∧ r.1.length ≤ 255 := by
  unfold timesF
  rw [if_pos ⟨h1, h2⟩]
  split
  · rename_i h
    exact ⟨_, rfl, by show (matrix _ _ _).length ≤ 255; rw [matrix_length]; exact (right_facts h.1).2.1⟩
  · exact ⟨_, rfl, by simp⟩
theorem applyF_some (l : List (List Int)) (v : List Int) (h1 : okB l = true) (h2 : okV v = true) : ∃ r, applyF l v = some r := by
  unfold applyF
  rw [if_pos ⟨h1, h2⟩]
  split
  · exact ⟨_, rfl⟩
  · exact ⟨_, rfl⟩
theorem invF_some (l : List (List Int)) (h1 : okB l = true) : ∃ r, invF l = some r ∧ r.1.length ≤ 255 := by
  unfold invF
  rw [if_pos h1]
  split
  · rename_i h
    split
    · exact ⟨_, rfl, by simp⟩
    · exact ⟨_, rfl, by show (matrix _ _ _).length ≤ 255; rw [matrix_length]; exact (right_facts h.1).2.1⟩
  · exact ⟨_, rfl, by simp⟩
theorem rowsF_some (l : List (List Int)) (ns : List Int) (h1 : okB l = true) : ∃ r, rowsF l ns = some r ∧ r.1.length ≤ 255 := by
  unfold rowsF
  rw [if_pos h1]
  split
  · rename_i h
    exact ⟨_, rfl, by show (matrix _ _ _).length ≤ 255; rw [matrix_length]; exact h.2.2.1⟩
  · exact ⟨_, rfl, by simp⟩
end Go.Proofs.Ytgoacbbaiigpeaa.Pure
