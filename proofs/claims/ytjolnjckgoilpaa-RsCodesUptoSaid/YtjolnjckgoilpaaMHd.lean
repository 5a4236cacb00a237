/- Several texts of this session laid together: RsEqf, RsChk, RsHd. -/
import Derived.Test.YtjolnjckgoilpaaRsLin
import Derived.Test.YtjolnjckgoilpaaPRay6
section
/-
  slices.Equal, slices.EqualFunc over rows, (*rs.Code).Check.
-/
set_option linter.unusedVariables false
set_option linter.unusedSimpArgs false
namespace Go.Proofs.Ytjolnjckgoilpaa.Rs
open Go.RowKit Go.Proofs.YtjolnjckgoilpaaW.PrintWords Go.Proofs.YtjolnjckgoilpaaW.PrintLast Go.Proofs.YtjolnjckgoilpaaW.PrintMore Go.Proofs.Ytjolnjckgoilpaa.PRa Go.Proofs.Ytjolnjckgoilpaa.Gf
theorem equal_l0 (x y : List Int) (hxy : x.length = y.length) (hx : x.length ≤ 100000000) : ∀ (d k i : Nat), d + i = x.length → d < k → slices_Equal_byte_byte.l0 k x y (x.length : Int) i = some (decide (x.drop i = y.drop i)) := by
  intro d
  induction d with
  | zero =>
    intro k i hd hk
    obtain ⟨k, rfl⟩ : ∃ m, k = m + 1 := ⟨k - 1, by omega⟩
    simp only [slices_Equal_byte_byte.l0]
    rw [if_neg (by omega), List.drop_eq_nil_of_le (by omega), List.drop_eq_nil_of_le (by omega)]
    simp
  | succ d ih =>
    intro k i hd hk
    obtain ⟨k, rfl⟩ : ∃ m, k = m + 1 := ⟨k - 1, by omega⟩
    simp only [slices_Equal_byte_byte.l0]
    have e2 : wrap64 ((i : Int) + 1) = ((i + 1 : Nat) : Int) := by unfold wrap64; omega
    rw [if_pos (by omega), if_pos (by omega), if_pos (by omega), if_pos (by omega), e2]
    have hx1 : i < x.length := by omega
    have hy1 : i < y.length := by omega
    have e3 : rd x (i : Int) = x[i] := by simp [rd, rdOf, List.getD, hx1]
    have e4 : rd y (i : Int) = y[i] := by simp [rd, rdOf, List.getD, hy1]
    rw [e3, e4, List.drop_eq_getElem_cons hx1, List.drop_eq_getElem_cons hy1]
    by_cases h : x[i] = y[i]
    · rw [if_pos h, ih k (i + 1) (by omega) (by omega)]
      congr 1
      exact decide_eq_decide.mpr ⟨fun e => by rw [h, e], fun e => (List.cons.inj e).2⟩
    · rw [if_neg h]
      congr 1
      exact (decide_eq_false fun e => h (List.cons.inj e).1).symm
theorem equal41 (w : World) (A : Option Addr) (c : Nat) (x : List Int) (B : Option Addr) (d : Nat) (y : List Int) (hx : KB.C w A x.length x) (hc : x.length ≤ c) (hy : KB.C w B y.length y) (hd : y.length ≤ d) (h9 : x.length ≤ 100000000) :
    Calls Try.prog 41 #[.slice A x.length c, .slice B y.length d] w fun e w' => e = .returned (.bool (decide (x = y))) ∧ Drawn0 w w' := by
  refine slices_Equal_byte_byte.calls (x.length + 1) A c x B d y (decide (x = y)) w hx hc hy hd ?_
  unfold slices_Equal_byte_byte.f
  by_cases h : x.length = y.length
  · rw [if_pos (by omega)]
    have := equal_l0 x y h h9 x.length (x.length + 1) 0 (by omega) (by omega)
    simpa using this
  · rw [if_neg (by omega)]
    have : ¬ x = y := fun e => h (by rw [e])
    simp [this]
theorem enter41 (args : Array Value) (w : World) : (callFunc 41 args).run Try.prog w = .ok (.enter 41 args) w := Go.Proofs.enters_of Try.func41 (by kernel_rfl) rfl args w
theorem take_step {x y : List (List Int)} {j n : Nat} (hx : x.length = n) (hy : y.length = n) (hj : j < n) (h : x.take j = y.take j) (e : row x j = row y j) : x.take (j + 1) = y.take (j + 1) := by
  have h1 : j < x.length := by omega
  have h2 : j < y.length := by omega
  rw [List.take_succ_eq_append_getElem h1, List.take_succ_eq_append_getElem h2, h]
  have e1 : x[j] = row x j := by simp [row, List.getD, h1]
  have e2 : y[j] = row y j := by simp [row, List.getD, h2]
  rw [e1, e2, e]
set_option maxHeartbeats 8000000 in
set_option maxRecDepth 100000 in
theorem equalf40 (w : World) (A : Option Addr) (c : Nat) (x : List (List Int)) (B : Option Addr) (d : Nat) (y : List (List Int)) (n : Nat) (hx : KR.C w A n x) (hy : KR.C w B n y) (hn : n ≤ 100000000) (hr : ∀ i, (row x i).length ≤ 100000000) :
    Calls Try.prog 40 #[.slice A n c, .slice B n d, .func (.func 41) #[] #[]] w fun e w' => e = .returned (.bool (decide (x = y))) ∧ Below w.heap.size w w' := by
  have hxl : x.length = n := Kd.C_len hx
  have hyl : y.length = n := Kd.C_len hy
  have HXL := Aside0.mk hxl
  have HYL := Aside0.mk hyl
  have HX := Aside0.mk hx
  have HY := Aside0.mk hy
  have HR := Aside0.mk hr
  have he := enter41
  clear hx hy hxl hyl hr
  go_enter Try.func40, Try.ntmps40
  go_wp2_with fail
  go_loopw [17] (fun i W => ∃ j : Nat, j ≤ n ∧ i = .int .i64 j ∧ Aside0 (x.take j = y.take j) ∧ Aside0 (Below w.heap.size w W)) (fun i _ => n - (intOf i).toNat)
  case atStart => exact ⟨0, Nat.zero_le _, rfl, ⟨rfl⟩, ⟨Below.refl _ _⟩⟩
  case round =>
    obtain ⟨j, hj, rfl, HE, HB⟩ := hrel
    by_cases hjn : j < n
    · clear hj
      obtain ⟨ad, A1, c1, eA, xa, la, ia⟩ := rows_at HX.out (i := j) hjn
      obtain ⟨bd, B1, d1, eB, xb, lb, ib⟩ := rows_at HY.out (i := j) hjn
      subst eA
      subst eB
      replace xa := pw_cell_below HB.out xa
      replace xb := pw_cell_below HB.out xb
      have HQ := Aside0.mk (fun (W : World) (hW : Below w.heap.size w W) => equal41 W A1 c1 (row x j) B1 d1 (row y j) (Kd.C_below ia hW) la (Kd.C_below ib hW) lb (HR.out j))
      have HS := Aside0.mk (fun e => take_step HXL.out HYL.out hjn HE.out e)
      have HN := Aside0.mk (fun (e : ¬ row x j = row y j) => (fun h => e (by rw [h]) : ¬ x = y))
      obtain ⟨u, hu⟩ : ∃ u, row x j = u := ⟨_, rfl⟩
      obtain ⟨v, hv⟩ : ∃ v, row y j = v := ⟨_, rfl⟩
      rw [hu, hv] at HQ HS HN
      rw [hu] at xa
      rw [hv] at xb
      clear ia ib la lb hu hv HE
      have hji : decide ((j : Int) < (n : Int)) = true := decide_eq_true (by omega)
      have hj0 : (0 : Int) ≤ (j : Int) := by omega
      have hj1 : (j : Int) < (n : Int) := by omega
      by_cases huv : u = v
      · have HE := Aside0.mk (HS.out huv)
        have HQ2 := Aside0.mk (fun (W : World) (hW : Below w.heap.size w W) => (by have := HQ.out W hW; rw [decide_eq_true huv] at this; exact this : Calls Try.prog 41 #[.slice A1 u.length c1, .slice B1 v.length d1] W fun e w' => e = .returned (.bool true) ∧ Drawn0 W w'))
        clear HQ HS HN huv
        generalize u.length = lu at *
        generalize v.length = lv at *
        go_wp2_with (go_at_call 41; refine Calls.mono (HQ2.out _ HB.out) ?_; rintro e w1 ⟨rfl, hd⟩; have HB1 := Aside0.mk (below_then HB.out HB.out.size hd.below); clear hd)
        go_roundw
        case measure => simp [intOf]; omega
        case rel => exact ⟨j + 1, by omega, by go_num, HE, HB1⟩
      · have hne := HN.out huv
        have HNE := Aside0.mk (decide_eq_false hne)
        have HQ2 := Aside0.mk (fun (W : World) (hW : Below w.heap.size w W) => (by have := HQ.out W hW; rw [decide_eq_false huv] at this; exact this : Calls Try.prog 41 #[.slice A1 u.length c1, .slice B1 v.length d1] W fun e w' => e = .returned (.bool false) ∧ Drawn0 W w'))
        clear HQ HS HN huv hne
        generalize u.length = lu at *
        generalize v.length = lv at *
        go_wp2_with (go_at_call 41; refine Calls.mono (HQ2.out _ HB.out) ?_; rintro e w1 ⟨rfl, hd⟩; have HB1 := Aside0.mk (below_then HB.out HB.out.size hd.below); clear hd)
        go_ret
        exact ⟨congrArg (fun b => Ending.returned (Value.bool b)) HNE.out.symm, HB1.out⟩
    · obtain rfl : j = n := by omega
      have hji : decide ((j : Int) < (j : Int)) = false := decide_eq_false (by omega)
      have HEQ := Aside0.mk (decide_eq_true (show x = y by have := HE.out; rwa [List.take_of_length_le (by rw [HXL.out]; exact Nat.le_refl _), List.take_of_length_le (by rw [HYL.out]; exact Nat.le_refl _)] at this))
      go_wp2_with fail
      go_ret
      exact ⟨congrArg (fun b => Ending.returned (Value.bool b)) HEQ.out.symm, HB.out⟩
/-- The world with the two results' variables. -/
def twoC (w : World) : World := (w.alloc (.cells #[.bool false] 4)).alloc (.cells #[.int .i64 0] 27)
theorem twoC_below (w : World) : Below w.heap.size w (twoC w) := below_alloc (below_alloc (Below.refl _ _) _) _
theorem twoC_at0 (w : World) : (twoC w).heap[w.heap.size]? = some (.cells #[.bool false] 4 (0, 0)) := blkalloc (heap_alloc_last _ _) _
theorem twoC_at1 (w : World) : (twoC w).heap[w.heap.size + 1]? = some (.cells #[.int .i64 0] 27 (0, 0)) := by
  have := heap_alloc_last (w.alloc (.cells #[.bool false] 4)) (.cells #[.int .i64 0] 27)
  rw [World.size_alloc] at this
  exact this
structure TwoC (w W : World) (v0 v1 : Value) : Prop where
  below : Below w.heap.size w W
  at0 : W.heap[w.heap.size]? = some (.cells #[v0] 4 (0, 0))
  at1 : W.heap[w.heap.size + 1]? = some (.cells #[v1] 27 (0, 0))
theorem TwoC.start (w : World) : TwoC w (twoC w) (.bool false) (.int .i64 0) := ⟨twoC_below w, twoC_at0 w, twoC_at1 w⟩
theorem TwoC.then_ {w W W1 : World} {v0 v1 : Value} (h : TwoC w W v0 v1) (hb : Below W.heap.size W W1) : TwoC w W1 v0 v1 := ⟨below_then h.below h.below.size hb, (hb.block _ (heap_lt h.at0)).trans h.at0, (hb.block _ (heap_lt h.at1)).trans h.at1⟩
theorem TwoC.set0 {w W : World} {v0 v1 : Value} (h : TwoC w W v0 v1) (u : Value) : TwoC w (W.setCell ⟨w.heap.size, 0, none⟩ u) u v1 := ⟨below_set h.below (Nat.le_refl _), blkset h.at0 0 u, blkfar h.at1 (p := ⟨w.heap.size, 0, none⟩) (Nat.succ_ne_self _) u⟩
theorem TwoC.set1 {w W : World} {v0 v1 : Value} (h : TwoC w W v0 v1) (u : Value) : TwoC w (W.setCell ⟨w.heap.size + 1, 0, none⟩ u) v0 u := ⟨below_set h.below (by omega), blkfar h.at0 (p := ⟨w.heap.size + 1, 0, none⟩) (by show _ ≠ _ + 1; omega) u, blkset h.at1 0 u⟩
theorem TwoC.c0 {w W : World} {v0 v1 : Value} (h : TwoC w W v0 v1) : W.cell? ⟨w.heap.size, 0, none⟩ = some v0 := by rw [cell_of_row W _ 0 _ 4 (0, 0) h.at0]; rfl
theorem TwoC.c1 {w W : World} {v0 v1 : Value} (h : TwoC w W v0 v1) : W.cell? ⟨w.heap.size + 1, 0, none⟩ = some v1 := by rw [cell_of_row W _ 0 _ 27 (0, 0) h.at1]; rfl
theorem TwoC.f0 {w W : World} {v0 v1 : Value} (h : TwoC w W v0 v1) : W.frozen? ⟨w.heap.size, 0, none⟩ = false := frozen_blk h.at0
theorem TwoC.f1 {w W : World} {v0 v1 : Value} (h : TwoC w W v0 v1) : W.frozen? ⟨w.heap.size + 1, 0, none⟩ = false := frozen_blk h.at1
end Go.Proofs.Ytjolnjckgoilpaa.Rs
end

section
/-
  (*rs.Code).Check.
-/
set_option linter.unusedVariables false
set_option linter.unusedSimpArgs false
namespace Go.Proofs.Ytjolnjckgoilpaa.Rs
open Go.RowKit Go.Proofs.YtjolnjckgoilpaaW.PrintWords Go.Proofs.YtjolnjckgoilpaaW.PrintLast Go.Proofs.YtjolnjckgoilpaaW.PrintMore Go.Proofs.Ytjolnjckgoilpaa.PRa Go.Proofs.Ytjolnjckgoilpaa.Gf
/-- Do shards fit? -/
def chkB (l : List (List Int)) (k m : Nat) : Bool := decide ([rowL m (tcol (rho 0) l k), rowL m (tcol (rho 1) l k)] = l.drop k)
theorem row_take {l : List (List Int)} {k i : Nat} (h : i < k) : row (l.take k) i = row l i := by simp [row, List.getD, List.getElem?_take, h]
theorem tcol_take (ρ : Nat → Nat) (l : List (List Int)) (k x : Nat) : tcol ρ (l.take k) k x = tcol ρ l k x := by
  unfold tcol
  exact sx_congr k fun q hq => by unfold byt; rw [row_take hq]
theorem rowL_congr {m : Nat} {f g : Nat → Nat} (h : ∀ x, x < m → f x = g x) : rowL m f = rowL m g := by
  unfold rowL
  apply List.map_congr_left
  intro x hx
  rw [h x (by simpa using hx)]
theorem okB_take {l : List (List Int)} (h : okB l = true) (k : Nat) : okB (l.take k) = true := by
  unfold okB at h ⊢
  rw [List.all_eq_true] at h ⊢
  exact fun x hx => h x (List.mem_of_mem_take hx)
theorem pair_C {w W : World} {b g0 g1 m : Nat} {f0 f1 : Nat → Nat} (h : PairAt w W b g0 g1 m f0 f1) (hm : m ≤ 1000000000) : KR.C W (some ⟨b, 0, none⟩) 2 [rowL m f0, rowL m f1] := by
  refine KR_of h.top rfl (by omega) (fun j hj => ?_)
  match j, hj with
  | 0, _ => exact ⟨some ⟨g0, 0, none⟩, m, by simp [row, rowL_length], by simp [row, rowL_length], by simp only [row, List.getD_cons_zero]; rw [rowL_length]; exact KB_row h.row0 hm⟩
  | 1, _ => exact ⟨some ⟨g1, 0, none⟩, m, by simp [row, rowL_length], by simp [row, rowL_length], by simp only [row, List.getD_cons_succ, List.getD_cons_zero]; rw [rowL_length]; exact KB_row h.row1 hm⟩
theorem wp_thenF {K : Act → World → Prop} {Q : Exit → Act → World → Prop} {cd : Code} {a : Act} {w : World} (h : Code.wp Try.prog cd (Exit.then K fun _ _ _ => False) a w) : Code.wp Try.prog cd (Exit.then K Q) a w :=
  Code.wp_mono (fun e a w h => by cases e <;> first | exact h | exact h.elim) h
def CheckQ (w : World) (b : Bool) (e : Ending) (w' : World) : Prop := e = .returned (.tuple #[.bool b, .int .i64 0]) ∧ Below w.heap.size w w'
def check18.T5 : Bool × List (List Nat × List Nat) := (true, [([], []), ([], []), ([], []), ([2], [2]), ([3], [3]), ([4], [4]), ([1, 5], [1, 5]), ([0, 6], [0, 6]), ([], []), ([], []), ([9], [9]), ([10], [10]), ([11], [11]), ([8, 12], [8, 12]), ([7, 13, 7], [7, 13]), ([14, 14, 0, 1, 2, 3, 4, 5, 6, 7, 8, 9, 10, 11, 12, 13, 14], [14]), ([15, 0, 1, 2, 3, 4, 5, 6, 7, 8, 9, 10, 11, 12, 13, 14, 15], [])])
def check18.B5 : List Nat := [0, 0, 0, 4, 12, 28, 62, 127, 0, 0, 512, 1536, 3584, 7936, 16383, 32767, 65535]
theorem check18.tab5 : rtab .any (opsOf Try.f18 5) = check18.T5 := by kernel_rfl
theorem check18.bits5 : waitsOk check18.T5.2 check18.B5 = true := by kernel_rfl
set_option maxHeartbeats 8000000 in
set_option maxRecDepth 100000 in
theorem check18_ok (w : World) (g k : Nat) (hc : CodeAt w g k) (hk : 1 ≤ k) (hk2 : k ≤ 32) (B : Option Addr) (d : Nat) (l : List (List Int)) (n : Nat) (hL : KR.C w B n l) (hn : n = k + 2) (hd : n ≤ d) (m : Nat) (hm9 : m ≤ 1000000) (hok : okB l = true) (hm : ∀ i, i < n → (row l i).length = m) (hs : sizesB 0 l = true) (hmiss : missL l = []) :
    Calls Try.prog 18 #[.pointer (some ⟨g, 0, none⟩), .slice B n d] w (CheckQ w (chkB l k m)) := by
  have hl : l.length = n := Kd.C_len hL
  have hw2 : wrap64 ((k : Int) + 2) = (k : Int) + 2 := by unfold wrap64; omega
  have HA := Aside0.mk (fun (W : World) (hW : Below w.heap.size w W) => (by have := alike23 W ((k : Int) + 2) B d l (by rw [hl]; exact Kd.C_below hL hW) (by omega); rw [hl] at this; refine this.mono ?_; rintro e w' ⟨h, h2⟩; rw [if_pos ⟨by omega, hs⟩] at h; exact ⟨h, h2⟩ : Calls Try.prog 23 #[.int .i64 ((k : Int) + 2), .slice B n d] W fun e w' => e = .returned (.tuple #[]) ∧ w' = W))
  have HM := Aside0.mk (fun (W : World) (hW : Below w.heap.size w W) => (by have := missing24 W B d l (by rw [hl]; exact Kd.C_below hL hW) (by omega) (by omega); rw [hl, hmiss] at this; refine this.mono ?_; rintro e w' ⟨B', d', rfl, h, h2⟩; exact ⟨B', d', rfl, h2⟩ : Calls Try.prog 24 #[.slice B n d] W fun e w' => ∃ B' d', e = .returned (.slice B' 0 d') ∧ Below W.heap.size W w'))
  have HP := Aside0.mk (fun (W : World) (hW : Below w.heap.size w W) => (by
    have h1 : KR.C w B k (l.take k) := by have := Kd.C_take (k := KR) (m := k) (by rw [hl]; exact hL) (by omega); rwa [List.length_take, Nat.min_eq_left (by omega)] at this
    have := parity26 W g k (hc.below hW) hk hk2 B d (l.take k) (Kd.C_below h1 hW) (by rw [List.length_take]; omega) m hm9 (okB_take hok k) (fun i hi => by rw [row_take hi]; exact hm i (by omega))
    exact this : Calls Try.prog 26 #[.pointer (some ⟨g, 0, none⟩), .slice B k d] W (ParQ W k m (l.take k))))
  obtain ⟨ad, _, _, eB, _⟩ := rows_at hL (i := 0) (by omega)
  subst eB
  have HE := Aside0.mk (fun (W : World) (hW : Below w.heap.size w W) (b g0 g1 : Nat) (w0 : World) (hp : PairAt w0 W b g0 g1 m (tcol (rho 0) (l.take k) k) (tcol (rho 1) (l.take k) k)) => (by
    have h1 := Kd.C_drop (k := KR) (m := k) (c := d) (by rw [hl]; exact Kd.C_below hL hW) (by omega) (by omega)
    rw [if_neg (by omega), List.length_drop, hl, show n - k = 2 by omega] at h1
    have h2 := equalf40 W (some ⟨b, 0, none⟩) 2 _ _ (d - k) (l.drop k) 2 (pair_C hp (by omega)) h1 (by omega) (fun i => by
      match i with
      | 0 => simp [row, rowL_length]; omega
      | 1 => simp [row, rowL_length]; omega
      | i + 2 => simp [row])
    rw [show n - k = 2 by omega]
    rw [show Option.map (fun x => x.add (k * KR.sz)) (some ad) = some (ad.add k) by simp [KR, Kd.slice]] at h2
    refine h2.mono ?_
    rintro e w' ⟨rfl, hb⟩
    refine ⟨?_, hb⟩
    unfold chkB
    rw [rowL_congr (fun x _ => tcol_take (rho 0) l k x), rowL_congr (fun x _ => tcol_take (rho 1) l k x)] : Calls Try.prog 40 #[.slice (some ⟨b, 0, none⟩) 2 2, .slice (some (ad.add k)) (n - k) (d - k), .func (.func 41) #[] #[]] W fun e w' => e = .returned (.bool (chkB l k m)) ∧ Below W.heap.size W w'))
  obtain ⟨Ac, cc, hg, hcc2, hCC⟩ := hc
  have cg : w.cell? ⟨g, 0, none⟩ = some (.int .i64 k) := by rw [cell_of_row w g 0 _ 48 (0, 0) hg]; rfl
  have hgl : g < w.heap.size := heap_lt hg
  have hZ := TwoC.start w
  replace cg := pw_cell_below hZ.below cg
  have HZ := Aside0.mk hZ
  unfold twoC at HZ cg
  generalize chkB l k m = bb at *
  have hmf : ∀ (fn : Fn) (first cap : Array Value) (w : World), (Instr.makeFunc fn first cap).run Try.prog w = .ok (.func fn first cap) w := fun _ _ _ _ => rfl
  have HNK := Aside0.mk hn
  have HDN := Aside0.mk hd
  clear hL hg hCC hZ hm hok hs hmiss hl hn hd
  go_enter_defers Try.func18, Try.ntmps18
  go_wp2_with (first
    | (go_at_call 23; refine Calls.mono (HA.out _ HZ.out.below) ?_; rintro e w1 ⟨rfl, rfl⟩)
    | (go_at_call 24; refine Calls.mono (HM.out _ HZ.out.below) ?_; rintro e w2 ⟨B', d', rfl, hb2⟩; have HZ2 := Aside0.mk (HZ.out.then_ hb2); replace cg := pw_cell_below hb2 cg; clear HZ))
  have hk0 : (0 : Int) ≤ (k : Int) := by have := HNK.out; have := HDN.out; omega
  have hkd : (k : Int) ≤ (d : Int) := by have := HNK.out; have := HDN.out; omega
  have hkn : (k : Int) ≤ (n : Int) := by have := HNK.out; have := HDN.out; omega
  have hnd : (n : Int) ≤ (d : Int) := by have := HNK.out; have := HDN.out; omega
  have hdk : ¬ d = k := by have := HNK.out; have := HDN.out; omega
  refine wp_thenF ?_
  refine start_ (n := 17) (S := fun w' => w'.cell? ⟨g, 0, none⟩ = some (.int .i64 k)) (ds := [15, 16]) #[false, false, false, false, false, false, false, false, false, false, false, false, false, false, false, false, false] (by kernel_rfl) rfl rfl (cg) (fun hHeld => ?_)
  refine with_tabW check18.tab5 check18.bits5 (fun HT_ HW_ => ?_)
  refine pure_ (i := 0) (N := some 19) (v := ?_) (a' := ?_) #[true, false, false, false, false, false, false, false, false, false, false, false, false, false, false, false, false] rfl rfl (any_of HT_.out (by kernel_rfl)) (fun _ _ _ h => h) (Or.inl ⟨by rfl, ?_⟩) ?_ ?_
  rotate_left
  · intro w'
    go_simp
    with_reducible rfl
  rotate_left
  · simp only [Act.put, List.setIfInBounds_toArray, List.set_cons_zero, List.set_cons_succ, i64_w, i32_w]
    rfl
  refine pure_ (i := 1) (N := some 20) (v := ?_) (a' := ?_) #[true, true, false, false, false, false, false, false, false, false, false, false, false, false, false, false, false] rfl rfl (any_of HT_.out (by kernel_rfl)) (fun _ _ _ h => h) (Or.inl ⟨by rfl, ?_⟩) ?_ ?_
  rotate_left
  · intro w'
    go_simp
    with_reducible rfl
  rotate_left
  · simp only [Act.put, List.setIfInBounds_toArray, List.set_cons_zero, List.set_cons_succ, i64_w, i32_w]
    rfl
  refine pure_ (i := 2) (N := some 21) (v := ?_) (a' := ?_) #[true, true, true, false, false, false, false, false, false, false, false, false, false, false, false, false, false] rfl rfl (any_of HT_.out (by kernel_rfl)) (fun _ _ _ h => h) (Or.inl ⟨by rfl, ?_⟩) ?_ ?_
  rotate_left
  · intro w'
    go_simp
    with_reducible rfl
  rotate_left
  · simp only [Act.put, List.setIfInBounds_toArray, List.set_cons_zero, List.set_cons_succ, i64_w, i32_w]
    rfl
  refine pure_ (i := 3) (N := some 22) (v := ?_) (a' := ?_) #[true, true, true, true, false, false, false, false, false, false, false, false, false, false, false, false, false] rfl rfl (any_of HT_.out (by kernel_rfl)) (fun _ _ _ h => h) (Or.inl ⟨by rfl, ?_⟩) ?_ ?_
  rotate_left
  · intro w'
    go_simp
    with_reducible rfl
  rotate_left
  · simp only [Act.put, List.setIfInBounds_toArray, List.set_cons_zero, List.set_cons_succ, i64_w, i32_w]
    rfl
  refine pure_ (i := 4) (N := some 23) (v := ?_) (a' := ?_) #[true, true, true, true, true, false, false, false, false, false, false, false, false, false, false, false, false] rfl rfl (any_of HT_.out (by kernel_rfl)) (fun _ _ _ h => h) (Or.inl ⟨by rfl, ?_⟩) ?_ ?_
  rotate_left
  · intro w'
    go_simp
    with_reducible rfl
  rotate_left
  · simp only [Act.put, List.setIfInBounds_toArray, List.set_cons_zero, List.set_cons_succ, i64_w, i32_w]
    rfl
  refine pure_ (i := 8) (N := some 27) (v := ?_) (a' := ?_) #[true, true, true, true, true, false, false, false, true, false, false, false, false, false, false, false, false] rfl rfl (any_of HT_.out (by kernel_rfl)) (fun _ _ _ h => h) (Or.inl ⟨by rfl, ?_⟩) ?_ ?_
  rotate_left
  · intro w'
    go_simp
    with_reducible rfl
  rotate_left
  · simp only [Act.put, List.setIfInBounds_toArray, List.set_cons_zero, List.set_cons_succ, i64_w, i32_w]
    rfl
  refine pure_ (i := 9) (N := some 28) (v := ?_) (a' := ?_) #[true, true, true, true, true, false, false, false, true, true, false, false, false, false, false, false, false] rfl rfl (any_of HT_.out (by kernel_rfl)) (fun _ _ _ h => h) (Or.inl ⟨by rfl, ?_⟩) ?_ ?_
  rotate_left
  · intro w'
    go_simp
    with_reducible rfl
  rotate_left
  · simp only [Act.put, List.setIfInBounds_toArray, List.set_cons_zero, List.set_cons_succ, i64_w, i32_w]
    rfl
  refine pure_ (i := 10) (N := some 29) (v := ?_) (a' := ?_) #[true, true, true, true, true, false, false, false, true, true, true, false, false, false, false, false, false] rfl rfl (any_of HT_.out (by kernel_rfl)) (fun _ _ _ h => h) (Or.inl ⟨by rfl, ?_⟩) ?_ ?_
  rotate_left
  · intro w'
    go_simp
    with_reducible rfl
  rotate_left
  · simp only [Act.put, List.setIfInBounds_toArray, List.set_cons_zero, List.set_cons_succ, i64_w, i32_w]
    rfl
  refine pure_ (i := 11) (N := some 30) (v := ?_) (a' := ?_) #[true, true, true, true, true, false, false, false, true, true, true, true, false, false, false, false, false] rfl rfl (any_of HT_.out (by kernel_rfl)) (fun _ _ _ h => h) (Or.inl ⟨by rfl, ?_⟩) ?_ ?_
  rotate_left
  · intro w'
    go_simp
    with_reducible rfl
  rotate_left
  · simp only [Act.put, List.setIfInBounds_toArray, List.set_cons_zero, List.set_cons_succ, i64_w, i32_w]
    rfl
  refine take_ (i := 5) (N := some 24) (v := ?_) (a' := ?_) #[true, true, true, true, true, true, false, false, true, true, true, true, false, false, false, false, false] rfl rfl (take_ofW HT_.out HW_.out (by kernel_rfl)) (fun _ _ _ h => h) (Or.inl ⟨by rfl, ?_⟩) hHeld ?_ ?_
  rotate_left
  · intro w' s0
    go_simp
    with_reducible rfl
  rotate_left
  · simp only [Act.put, List.setIfInBounds_toArray, List.set_cons_zero, List.set_cons_succ, i64_w, i32_w]
    rfl
  refine pure_ (i := 6) (N := some 25) (v := ?_) (a' := ?_) #[true, true, true, true, true, true, true, false, true, true, true, true, false, false, false, false, false] rfl rfl (any_of HT_.out (by kernel_rfl)) (fun _ _ _ h => h) (Or.inl ⟨by rfl, ?_⟩) ?_ ?_
  rotate_left
  · intro w'
    go_simp
    with_reducible rfl
  rotate_left
  · simp only [Act.put, List.setIfInBounds_toArray, List.set_cons_zero, List.set_cons_succ, i64_w, i32_w]
    rfl
  refine take_ (i := 12) (N := some 31) (v := ?_) (a' := ?_) #[true, true, true, true, true, true, true, false, true, true, true, true, true, false, false, false, false] rfl rfl (take_ofW HT_.out HW_.out (by kernel_rfl)) (fun _ _ _ h => h) (Or.inl ⟨by rfl, ?_⟩) hHeld ?_ ?_
  rotate_left
  · intro w' s0
    go_simp
    with_reducible rfl
  rotate_left
  · simp only [Act.put, List.setIfInBounds_toArray, List.set_cons_zero, List.set_cons_succ, i64_w, i32_w]
    rfl
  refine pure_ (i := 13) (N := some 32) (v := ?_) (a' := ?_) #[true, true, true, true, true, true, true, false, true, true, true, true, true, true, false, false, false] rfl rfl (any_of HT_.out (by kernel_rfl)) (fun _ _ _ h => h) (Or.inl ⟨by rfl, ?_⟩) ?_ ?_
  rotate_left
  · intro w'
    go_simp
    with_reducible rfl
  rotate_left
  · simp only [Act.put, List.setIfInBounds_toArray, List.set_cons_zero, List.set_cons_succ, i64_w, i32_w]
    rfl
  refine one_ (i := 7) (N := some 26) #[true, true, true, true, true, true, true, true, true, true, true, true, true, true, false, false, false] rfl rfl (one_of HT_.out (by kernel_rfl)) (by decide) (fun K hK => ?_)
  refine goes_ Try.func26 (by kernel_rfl) rfl #[.pointer (some ⟨g, 0, none⟩), .slice (some ad) k d] (by rfl) rfl rfl (by simp only [List.map_toArray, List.map_cons, List.map_nil]; rfl) ?_
  refine Calls.mono (HP.out _ (below_drew HZ2.out.below)) ?_
  rintro e w7 ⟨b, g0, g1, rfl, hp⟩
  refine ⟨_, rfl, ?_⟩
  refine hK.out _ _ (pw_cell_below hp.below hHeld) (fun hHeld => ?_)
  clear hK K
  refine norm_ (a' := ?_) ?_ ?_
  rotate_left
  · show Act.put _ (some 26) _ = _
    simp only [Act.put, List.setIfInBounds_toArray, List.set_cons_zero, List.set_cons_succ, i64_w, i32_w]
    rfl
  refine one_ (i := 14) (N := some 33) #[true, true, true, true, true, true, true, true, true, true, true, true, true, true, true, false, false] rfl rfl (one_of HT_.out (by kernel_rfl)) (by decide) (fun K hK => ?_)
  refine goes_ Try.func40 (by kernel_rfl) rfl #[.slice (some ⟨b, 0, none⟩) 2 2, .slice (some (ad.add k)) (n - k) (d - k), .func (.func 41) #[] #[]] (by rfl) rfl rfl (by simp only [List.map_toArray, List.map_cons, List.map_nil]; rfl) ?_
  refine Calls.mono (HE.out _ (below_then (below_drew HZ2.out.below) (below_drew HZ2.out.below).size hp.below) b g0 g1 _ hp) ?_
  rintro e w14 ⟨rfl, hb⟩
  refine ⟨_, rfl, ?_⟩
  have hz14 := (HZ2.out.then_ (below_then (below_drew (Below.refl w2.heap.size w2)) (Nat.le_refl _) hp.below)).then_ hb
  have HZ15 := Aside0.mk ((hz14.set0 (.bool bb)).set1 (.int .i64 0))
  have c0 := hz14.c0
  have f0 := hz14.f0
  have c1 := (hz14.set0 (.bool bb)).c1
  have f1 := hz14.f1
  refine hK.out _ _ (pw_cell_below hb hHeld) (fun hHeld => ?_)
  clear hK K
  refine norm_ (a' := ?_) ?_ ?_
  rotate_left
  · show Act.put _ (some 33) _ = _
    simp only [Act.put, List.setIfInBounds_toArray, List.set_cons_zero, List.set_cons_succ, i64_w, i32_w]
    rfl
  refine last_ (i := 15) (N := none) #[true, true, true, true, true, true, true, true, true, true, true, true, true, true, true, true, false] rfl rfl (one_of HT_.out (by kernel_rfl)) (by decide) (fun K hK => ?_)
  refine skip_ (w1 := ?_) (by rfl) rfl ?_ ?_
  rotate_left
  · go_simp
    rfl
  refine hK.out _ _ ?_
  clear hK K
  refine last_ (i := 16) (N := none) #[true, true, true, true, true, true, true, true, true, true, true, true, true, true, true, true, true] rfl rfl (one_of HT_.out (by kernel_rfl)) (by decide) (fun K hK => ?_)
  refine skip_ (w1 := ?_) (by rfl) rfl ?_ ?_
  rotate_left
  · go_simp
    rfl
  refine hK.out _ _ ?_
  clear hK K
  refine done_ (done_of HT_.out (by kernel_rfl)) ?_
  go_wp2_with fail
  refine leaves_cons (f := 21) (args := #[.pointer (some ⟨w.heap.size + 1, 0, none⟩), .func (.func 39) #[] #[.pointer (some ⟨w.heap.size, 0, none⟩)]]) (by simp) (by simp [go_sem]) ?_
  refine (told_idle ⟨w.heap.size + 1, 0, none⟩ _ _).mono ?_
  rintro e u' w'' ⟨rfl, rfl, rfl⟩
  have r0 := HZ15.out.c0
  have r1 := HZ15.out.c1
  simp [Leaves, settle, results, Try.results18, go_sem, r0, r1]
  exact ⟨rfl, HZ15.out.below⟩
end Go.Proofs.Ytjolnjckgoilpaa.Rs
end

section
/-
  Slices of rows, as slices of headers; the rows apart.
-/
set_option linter.unusedVariables false
set_option linter.unusedSimpArgs false
namespace Go.Proofs.Ytjolnjckgoilpaa.Rs
open Go.RowKit Go.Proofs.YtjolnjckgoilpaaW.PrintWords Go.Proofs.YtjolnjckgoilpaaW.PrintLast Go.Proofs.YtjolnjckgoilpaaW.PrintMore Go.Proofs.Ytjolnjckgoilpaa.PRa Go.Proofs.Ytjolnjckgoilpaa.Gf
/-- A row's header: where it lies, how long it is, its room. -/
abbrev Hd := Option Addr × Nat × Nat
def KH : Kd Hd := Kd.scalar (fun x => Value.slice x.1 x.2.1 x.2.2) (fun _ => rfl)
/-- The headers' rows. -/
def Rows (W : World) (hs : List Hd) (l : List (List Int)) : Prop := hs.length = l.length ∧ ∀ (i : Nat) (x : Hd), hs[i]? = some x → x.2.1 = (row l i).length ∧ x.2.1 ≤ x.2.2 ∧ KB.C W x.1 x.2.1 (row l i)
theorem Rows.below {W W1 : World} {hs : List Hd} {l : List (List Int)} (h : Rows W hs l) (hb : Below W.heap.size W W1) : Rows W1 hs l := ⟨h.1, fun i x hx => ⟨(h.2 i x hx).1, (h.2 i x hx).2.1, Kd.C_below (h.2 i x hx).2.2 hb⟩⟩
theorem KR_of_KH {W : World} {A : Option Addr} {n : Nat} {hs : List Hd} {l : List (List Int)} (h : KH.C W A n hs) (hr : Rows W hs l) : KR.C W A n l := by
  obtain ⟨h1, h2, h3⟩ := h
  refine ⟨by rw [← hr.1]; exact h1, h2, fun hn => ?_⟩
  obtain ⟨ad, e, hc⟩ := h3 hn
  refine ⟨ad, e, fun j p hj => ?_⟩
  obtain ⟨hjl, hp⟩ := List.getElem?_eq_some_iff.1 hj
  have hjh : j < hs.length := by rw [hr.1]; exact hjl
  obtain ⟨c, hs1, hs2, hs3⟩ := hc j _ (List.getElem?_eq_getElem hjh)
  have he : row l j = p := by unfold row; rw [List.getD_eq_getElem?_getD, hj]; rfl
  obtain ⟨q1, q2, q3⟩ := hr.2 j _ (List.getElem?_eq_getElem hjh)
  rw [he] at q1 q3
  have hc2 : c = [Value.slice hs[j].1 hs[j].2.1 hs[j].2.2] := hs2
  refine ⟨c, hs1, ⟨hs[j].1, hs[j].2.2, ?_, by rw [← q1]; exact q2, by rw [← q1]; exact q3⟩, hs3⟩
  rw [hc2, q1]
/-- The rows of a list have headers. -/
theorem KH_of_KR {W : World} {A : Option Addr} {n : Nat} {l : List (List Int)} (h : KR.C W A n l) : ∃ hs, KH.C W A n hs ∧ Rows W hs l := by
  have hl := Kd.C_len h
  have hx : ∀ i, ∃ x : Hd, i < n → ∃ ad, A = some ad ∧ W.cell? (ad.add i) = some (.slice x.1 x.2.1 x.2.2) ∧ x.2.1 = (row l i).length ∧ x.2.1 ≤ x.2.2 ∧ KB.C W x.1 x.2.1 (row l i) := fun i => by
    by_cases hi : i < n
    · obtain ⟨ad, A', c', e, hc, hle, hK⟩ := rows_at h hi
      exact ⟨(A', (row l i).length, c'), fun _ => ⟨ad, e, hc, rfl, hle, hK⟩⟩
    · exact ⟨(none, 0, 0), fun h => absurd h hi⟩
  refine ⟨(List.range n).map fun i => (hx i).choose, ⟨by simp, h.2.1, fun hn => ?_⟩, ⟨by simp [hl], fun i x hi => ?_⟩⟩
  · obtain ⟨ad, e, _⟩ := (hx 0).choose_spec hn
    refine ⟨ad, e, fun j p hj => ?_⟩
    obtain ⟨hjl, hp⟩ := List.getElem?_eq_some_iff.1 hj
    have hjn : j < n := by simpa using hjl
    obtain ⟨ad', e', hc, _⟩ := (hx j).choose_spec hjn
    obtain rfl : ad = ad' := by rw [e] at e'; injection e'
    have hp2 : (hx j).choose = p := by simpa [hjn] using hj
    subst hp2
    refine ⟨_, rfl, rfl, fun i u hu => ?_⟩
    cases i with
    | zero =>
      have hu2 := Option.some.inj hu
      rw [← hu2, show j * KH.sz + 0 = j by simp [KH, Kd.scalar]]
      exact hc
    | succ i => simp at hu
  · have hin : i < n := by
      have := (List.getElem?_eq_some_iff.1 hi).1
      simpa using this
    have hx2 : (hx i).choose = x := by simpa [hin] using hi
    obtain ⟨_, _, _, h1, h2, h3⟩ := (hx i).choose_spec hin
    rw [hx2] at h1 h2 h3
    exact ⟨h1, h2, h3⟩
theorem R_bytes_ok {W : World} {base e : Nat} {ok ok' : Nat → Prop} {v : Value} {xs : List Int} (h : KB.R e W base ok v xs) (hk : ∀ k, v.ownBlock = some k → ok' k) : KB.R e W base ok' v xs := ⟨hk, h.2.imp_ (fun _ _ hp => hp)⟩
/-- Rows of one length, each in a block of its own. -/
structure Lay (w W : World) (n m : Nat) (b c : Nat → Nat) (l : List (List Int)) : Prop where
  len : l.length = n
  rows : ∀ i, i < n → m ≤ c i ∧ (row l i).length = m ∧ KB.R 5 W w.heap.size (fun _ => True) (.slice (some ⟨b i, 0, none⟩) m (c i)) (row l i)
  inj : ∀ i j, i < n → j < n → b i = b j → i = j
def hdrs (n m : Nat) (b c : Nat → Nat) : List Hd := (List.range n).map fun i => (some ⟨b i, 0, none⟩, m, c i)
theorem hdrs_length (n m : Nat) (b c : Nat → Nat) : (hdrs n m b c).length = n := by simp [hdrs]
theorem hdrs_at {n m i : Nat} {b c : Nat → Nat} (h : i < n) : (hdrs n m b c)[i]? = some (some ⟨b i, 0, none⟩, m, c i) := by simp [hdrs, h]
theorem Lay.toRows {w W : World} {n m : Nat} {b c : Nat → Nat} {l : List (List Int)} (h : Lay w W n m b c l) : Rows W (hdrs n m b c) l := by
  refine ⟨by rw [hdrs_length, h.len], fun i x hx => ?_⟩
  have hi : i < n := by
    have := (List.getElem?_eq_some_iff.1 hx).1
    rwa [hdrs_length] at this
  rw [hdrs_at hi] at hx
  obtain rfl := Option.some.inj hx
  obtain ⟨h1, h2, h3⟩ := h.rows i hi
  refine ⟨h2.symm, h1, ?_⟩
  have := (Kd.R_reads' (n := m) h3).2.2
  rw [h2] at this
  exact this
theorem Lay.below {w W W1 : World} {n m : Nat} {b c : Nat → Nat} {l : List (List Int)} (h : Lay w W n m b c l) (hb : Below W.heap.size W W1) : Lay w W1 n m b c l := ⟨h.len, fun i hi => ⟨(h.rows i hi).1, (h.rows i hi).2.1, Kd.R_below (h.rows i hi).2.2 hb⟩, h.inj⟩
theorem Lay.over {w W W1 : World} {n m base : Nat} {b c : Nat → Nat} {l : List (List Int)} {v : Value} {hs : List Hd} {ok : Nat → Prop} (h : Lay w W n m b c l) (hv : KH.R 25 W base ok v hs) (hg : W.grownBy W1 v.ownBlock) : Lay w W1 n m b c l :=
  ⟨h.len, fun i hi => ⟨(h.rows i hi).1, (h.rows i hi).2.1, Kd.R_over (h.rows i hi).2.2 hv (by simp [KB, Kd.int, Kd.scalar]) hg⟩, h.inj⟩
theorem Lay.block {w W : World} {n m : Nat} {b c : Nat → Nat} {l : List (List Int)} (h : Lay w W n m b c l) {i : Nat} (hi : i < n) : w.heap.size ≤ b i ∧ b i < W.heap.size ∧ ∃ cells, W.heap[b i]? = some (.cells cells 5 (0, 0)) := by
  have hr := (h.rows i hi).2.2
  have hob : (Value.slice (some ⟨b i, 0, none⟩) m (c i)).ownBlock = some (b i) := by simp [Value.ownBlock]
  exact ⟨Kd.R_base hr _ hob, Kd.R_lt hr _ hob, Kd.R_typed hr _ hob⟩
/-- One byte of one row is written. -/
theorem Lay.put {w W : World} {n m : Nat} {b c : Nat → Nat} {l : List (List Int)} (h : Lay w W n m b c l) {i : Nat} (hi : i < n) (j : Nat) (v : Int) :
    Lay w (W.setCell ⟨b i, j, none⟩ (.int .u8 v)) n m b c (l.set i ((row l i).set j v)) := by
  have hrow : ∀ q, q < n → row (l.set i ((row l i).set j v)) q = if q = i then (row l i).set j v else row l q := fun q hq => by
    unfold row
    rw [List.getD_eq_getElem?_getD, List.getElem?_set]
    by_cases e : i = q
    · subst e
      have : i < l.length := by rw [h.len]; exact hi
      simp [this]
    · rw [if_neg e, if_neg (fun h => e h.symm), List.getD_eq_getElem?_getD]
  refine ⟨by rw [List.length_set, h.len], fun q hq => ?_, h.inj⟩
  obtain ⟨h1, h2, h3⟩ := h.rows q hq
  rw [hrow q hq]
  by_cases e : q = i
  · subst e
    rw [if_pos rfl, List.length_set]
    refine ⟨h1, h2, ?_⟩
    have h4 : KB.R 5 W w.heap.size (fun _ => True) (.slice (some ⟨b q, 0, none⟩) (row l q).length (c q)) (row l q) := by rw [h2]; exact h3
    have h5 := Kd.R_put h4 (j : Int) v
    rw [Int.toNat_natCast, h2] at h5
    exact h5.1
  · rw [if_neg e]
    refine ⟨h1, h2, ?_⟩
    have h4 : KB.R 5 W w.heap.size (fun k => k = b q) (.slice (some ⟨b q, 0, none⟩) m (c q)) (row l q) := R_bytes_ok h3 (fun k hk => by simpa [Value.ownBlock, eq_comm] using hk)
    have h5 := Kd.R_far (p := ⟨b i, j, none⟩) h4 (fun k hk hk2 => e (h.inj q i hq hi (by rw [← hk]; exact hk2))) (.int .u8 v)
    exact Kd.R_mono h5 (fun _ _ => trivial)
theorem Lay.cell {w W : World} {n m : Nat} {b c : Nat → Nat} {l : List (List Int)} (h : Lay w W n m b c l) {i j : Nat} (hi : i < n) (hj : j < m) (ok : okB l = true) : W.cell? ⟨b i, j, none⟩ = some (.int .u8 ((byt l i j : Nat) : Int)) ∧ W.frozen? ⟨b i, j, none⟩ = false := by
  obtain ⟨h1, h2, h3⟩ := h.rows i hi
  have h4 : KB.R 5 W w.heap.size (fun _ => True) (.slice (some ⟨b i, 0, none⟩) (row l i).length (c i)) (row l i) := by rw [h2]; exact h3
  have h5 := Kd.R_cell (0 : Int) h4 (j : Int) (by omega) (by omega)
  rw [Int.toNat_natCast] at h5
  refine ⟨?_, h5.2⟩
  rw [h5.1]
  show some (Value.int .u8 (rdOf 0 (row l i) (j : Int))) = _
  unfold rdOf
  rw [Int.toNat_natCast, (okB_at ok i j).2]
/-- A row more, in a block that is new. -/
theorem Lay.snoc {w W : World} {n m B C : Nat} {b c : Nat → Nat} {l : List (List Int)} {x : List Int} (h : Lay w W n m b c l) (hx : x.length = m) (hC : m ≤ C) (hR : KB.R 5 W w.heap.size (fun _ => True) (.slice (some ⟨B, 0, none⟩) m C) x) (hnew : ∀ i, i < n → b i ≠ B) :
    Lay w W (n + 1) m (fun q => if q = n then B else b q) (fun q => if q = n then C else c q) (l ++ [x]) := by
  have hrow : ∀ q, q < n → row (l ++ [x]) q = row l q := fun q hq => by
    unfold row
    rw [List.getD_eq_getElem?_getD, List.getElem?_append_left (by rw [h.len]; exact hq), List.getD_eq_getElem?_getD]
  have hlast : row (l ++ [x]) n = x := by
    unfold row
    rw [List.getD_eq_getElem?_getD, List.getElem?_append_right (by rw [h.len]; exact Nat.le_refl _), h.len]
    simp
  refine ⟨by simp [h.len], fun i hi => ?_, fun i j hi hj e => ?_⟩
  · by_cases e : i = n
    · subst e
      simp only [if_pos]
      rw [hlast]
      exact ⟨hC, hx, hR⟩
    · simp only [if_neg e]
      rw [hrow i (by omega)]
      exact h.rows i (by omega)
  · by_cases e1 : i = n <;> by_cases e2 : j = n
    · omega
    · rw [if_pos e1, if_neg e2] at e
      exact absurd e.symm (hnew j (by omega))
    · rw [if_neg e1, if_pos e2] at e
      exact absurd e (hnew i (by omega))
    · rw [if_neg e1, if_neg e2] at e
      exact h.inj i j (by omega) (by omega) e
theorem Lay.nil (w W : World) (m : Nat) (b c : Nat → Nat) : Lay w W 0 m b c [] := ⟨rfl, fun i hi => absurd hi (Nat.not_lt_zero _), fun i j hi => absurd hi (Nat.not_lt_zero _)⟩
end Go.Proofs.Ytjolnjckgoilpaa.Rs
end
