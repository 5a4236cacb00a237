/-
  (*rs.Code).Check.
-/
import Derived.Test.YtjolnjckgoilpaaRsEqf
set_option linter.unusedVariables false
set_option linter.unusedSimpArgs false
namespace Go.Proofs.Ytjolnjckgoilpaa.Rs
open Go.RowKit Go.Proofs.YtjolnjckgoilpaaW.PrintWords Go.Proofs.YtjolnjckgoilpaaW.PrintLast Go.Proofs.YtjolnjckgoilpaaW.PrintMore Go.Proofs.Ytjolnjckgoilpaa.PRa Go.Proofs.Ytjolnjckgoilpaa.Gf
/-- Do shards fit? -/
def chkB (l : List (List Int)) (k m : Nat) : Bool := decide ([rowL m (tcol (rho 0) l k), rowL m (tcol (rho 1) l k)] = l.drop k)
theorem row_take {l : List (List Int)} {k i : Nat} (h : i < k) : row (l.take k) i = row l i := by simp [row, List.getD, List.getElem?_take, h]
theorem tcol_take (ρ : Nat → Nat) (l : List (List Int)) (k x : Nat) : tcol ρ (l.take k) k x = tcol ρ l k x := by
  unfold tcol
  exact sx_congr k fun q hq => by unfold byt; rw [row_take hq]
theorem rowL_congr {m : Nat} {f g : Nat → Nat} (h : ∀ x, x < m → f x = g x) : rowL m f = rowL m g := by
  unfold rowL
  apply List.map_congr_left
  intro x hx
  rw [h x (by simpa using hx)]
theorem okB_take {l : List (List Int)} (h : okB l = true) (k : Nat) : okB (l.take k) = true := by
  unfold okB at h ⊢
  rw [List.all_eq_true] at h ⊢
  exact fun x hx => h x (List.mem_of_mem_take hx)
theorem pair_C {w W : World} {b g0 g1 m : Nat} {f0 f1 : Nat → Nat} (h : PairAt w W b g0 g1 m f0 f1) (hm : m ≤ 1000000000) : KR.C W (some ⟨b, 0, none⟩) 2 [rowL m f0, rowL m f1] := by
  refine KR_of h.top rfl (by omega) (fun j hj => ?_)
  match j, hj with
  | 0, _ => exact ⟨some ⟨g0, 0, none⟩, m, by simp [row, rowL_length], by simp [row, rowL_length], by simp only [row, List.getD_cons_zero]; rw [rowL_length]; exact KB_row h.row0 hm⟩
  | 1, _ => exact ⟨some ⟨g1, 0, none⟩, m, by simp [row, rowL_length], by simp [row, rowL_length], by simp only [row, List.getD_cons_succ, List.getD_cons_zero]; rw [rowL_length]; exact KB_row h.row1 hm⟩
theorem wp_thenF {K : Act → World → Prop} {Q : Exit → Act → World → Prop} {cd : Code} {a : Act} {w : World} (h : Code.wp Try.prog cd (Exit.then K fun _ _ _ => False) a w) : Code.wp Try.prog cd (Exit.then K Q) a w :=
  Code.wp_mono (fun e a w h => by cases e <;> first | exact h | exact h.elim) h
def CheckQ (w : World) (b : Bool) (e : Ending) (w' : World) : Prop := e = .returned (.tuple #[.bool b, .int .i64 0]) ∧ Below w.heap.size w w'
def check18.T5 : Bool × List (List Nat × List Nat) := (true, [([], []), ([], []), ([], []), ([2], [2]), ([3], [3]), ([4], [4]), ([1, 5], [1, 5]), ([0, 6], [0, 6]), ([], []), ([], []), ([9], [9]), ([10], [10]), ([11], [11]), ([8, 12], [8, 12]), ([7, 13, 7], [7, 13]), ([14, 14, 0, 1, 2, 3, 4, 5, 6, 7, 8, 9, 10, 11, 12, 13, 14], [14]), ([15, 0, 1, 2, 3, 4, 5, 6, 7, 8, 9, 10, 11, 12, 13, 14, 15], [])])
def check18.B5 : List Nat := [0, 0, 0, 4, 12, 28, 62, 127, 0, 0, 512, 1536, 3584, 7936, 16383, 32767, 65535]
theorem check18.tab5 : rtab .any (opsOf Try.f18 5) = check18.T5 := by kernel_rfl
theorem check18.bits5 : waitsOk check18.T5.2 check18.B5 = true := by kernel_rfl
set_option maxHeartbeats 8000000 in
set_option maxRecDepth 100000 in
theorem check18_ok (w : World) (g k : Nat) (hc : CodeAt w g k) (hk : 1 ≤ k) (hk2 : k ≤ 32) (B : Option Addr) (d : Nat) (l : List (List Int)) (n : Nat) (hL : KR.C w B n l) (hn : n = k + 2) (hd : n ≤ d) (m : Nat) (hm9 : m ≤ 1000000) (hok : okB l = true) (hm : ∀ i, i < n → (row l i).length = m) (hs : sizesB 0 l = true) (hmiss : missL l = []) :
    Calls Try.prog 18 #[.pointer (some ⟨g, 0, none⟩), .slice B n d] w (CheckQ w (chkB l k m)) := by
  have hl : l.length = n := Kd.C_len hL
  have hw2 : wrap64 ((k : Int) + 2) = (k : Int) + 2 := by unfold wrap64; omega
  have HA := Aside0.mk (fun (W : World) (hW : Below w.heap.size w W) => (by have := alike23 W ((k : Int) + 2) B d l (by rw [hl]; exact Kd.C_below hL hW) (by omega); rw [hl] at this; refine this.mono ?_; rintro e w' ⟨h, h2⟩; rw [if_pos ⟨by omega, hs⟩] at h; exact ⟨h, h2⟩ : Calls Try.prog 23 #[.int .i64 ((k : Int) + 2), .slice B n d] W fun e w' => e = .returned (.tuple #[]) ∧ w' = W))
  have HM := Aside0.mk (fun (W : World) (hW : Below w.heap.size w W) => (by have := missing24 W B d l (by rw [hl]; exact Kd.C_below hL hW) (by omega) (by omega); rw [hl, hmiss] at this; refine this.mono ?_; rintro e w' ⟨B', d', rfl, h, h2⟩; exact ⟨B', d', rfl, h2⟩ : Calls Try.prog 24 #[.slice B n d] W fun e w' => ∃ B' d', e = .returned (.slice B' 0 d') ∧ Below W.heap.size W w'))
  have HP := Aside0.mk (fun (W : World) (hW : Below w.heap.size w W) => (by
    have h1 : KR.C w B k (l.take k) := by have := Kd.C_take (k := KR) (m := k) (by rw [hl]; exact hL) (by omega); rwa [List.length_take, Nat.min_eq_left (by omega)] at this
    have := parity26 W g k (hc.below hW) hk hk2 B d (l.take k) (Kd.C_below h1 hW) (by rw [List.length_take]; omega) m hm9 (okB_take hok k) (fun i hi => by rw [row_take hi]; exact hm i (by omega))
    exact this : Calls Try.prog 26 #[.pointer (some ⟨g, 0, none⟩), .slice B k d] W (ParQ W k m (l.take k))))
  obtain ⟨ad, _, _, eB, _⟩ := rows_at hL (i := 0) (by omega)
  subst eB
  have HE := Aside0.mk (fun (W : World) (hW : Below w.heap.size w W) (b g0 g1 : Nat) (w0 : World) (hp : PairAt w0 W b g0 g1 m (tcol (rho 0) (l.take k) k) (tcol (rho 1) (l.take k) k)) => (by
    have h1 := Kd.C_drop (k := KR) (m := k) (c := d) (by rw [hl]; exact Kd.C_below hL hW) (by omega) (by omega)
    rw [if_neg (by omega), List.length_drop, hl, show n - k = 2 by omega] at h1
    have h2 := equalf40 W (some ⟨b, 0, none⟩) 2 _ _ (d - k) (l.drop k) 2 (pair_C hp (by omega)) h1 (by omega) (fun i => by
      match i with
      | 0 => simp [row, rowL_length]; omega
      | 1 => simp [row, rowL_length]; omega
      | i + 2 => simp [row])
    rw [show n - k = 2 by omega]
    rw [show Option.map (fun x => x.add (k * KR.sz)) (some ad) = some (ad.add k) by simp [KR, Kd.slice]] at h2
    refine h2.mono ?_
    rintro e w' ⟨rfl, hb⟩
    refine ⟨?_, hb⟩
    unfold chkB
    rw [rowL_congr (fun x _ => tcol_take (rho 0) l k x), rowL_congr (fun x _ => tcol_take (rho 1) l k x)] : Calls Try.prog 40 #[.slice (some ⟨b, 0, none⟩) 2 2, .slice (some (ad.add k)) (n - k) (d - k), .func (.func 41) #[] #[]] W fun e w' => e = .returned (.bool (chkB l k m)) ∧ Below W.heap.size W w'))
  obtain ⟨Ac, cc, hg, hcc2, hCC⟩ := hc
  have cg : w.cell? ⟨g, 0, none⟩ = some (.int .i64 k) := by rw [cell_of_row w g 0 _ 48 (0, 0) hg]; rfl
  have hgl : g < w.heap.size := heap_lt hg
  have hZ := TwoC.start w
  replace cg := pw_cell_below hZ.below cg
  have HZ := Aside0.mk hZ
  unfold twoC at HZ cg
  generalize chkB l k m = bb at *
  have hmf : ∀ (fn : Fn) (first cap : Array Value) (w : World), (Instr.makeFunc fn first cap).run Try.prog w = .ok (.func fn first cap) w := fun _ _ _ _ => rfl
  have HNK := Aside0.mk hn
  have HDN := Aside0.mk hd
  clear hL hg hCC hZ hm hok hs hmiss hl hn hd
  go_enter_defers Try.func18, Try.ntmps18
  go_wp2_with (first
    | (go_at_call 23; refine Calls.mono (HA.out _ HZ.out.below) ?_; rintro e w1 ⟨rfl, rfl⟩)
    | (go_at_call 24; refine Calls.mono (HM.out _ HZ.out.below) ?_; rintro e w2 ⟨B', d', rfl, hb2⟩; have HZ2 := Aside0.mk (HZ.out.then_ hb2); replace cg := pw_cell_below hb2 cg; clear HZ))
  have hk0 : (0 : Int) ≤ (k : Int) := by have := HNK.out; have := HDN.out; omega
  have hkd : (k : Int) ≤ (d : Int) := by have := HNK.out; have := HDN.out; omega
  have hkn : (k : Int) ≤ (n : Int) := by have := HNK.out; have := HDN.out; omega
  have hnd : (n : Int) ≤ (d : Int) := by have := HNK.out; have := HDN.out; omega
  have hdk : ¬ d = k := by have := HNK.out; have := HDN.out; omega
  refine wp_thenF ?_
  refine start_ (n := 17) (S := fun w' => w'.cell? ⟨g, 0, none⟩ = some (.int .i64 k)) (ds := [15, 16]) #[false, false, false, false, false, false, false, false, false, false, false, false, false, false, false, false, false] (by kernel_rfl) rfl rfl (cg) (fun hHeld => ?_)
  refine with_tabW check18.tab5 check18.bits5 (fun HT_ HW_ => ?_)
  refine pure_ (i := 0) (N := some 19) (v := ?_) (a' := ?_) #[true, false, false, false, false, false, false, false, false, false, false, false, false, false, false, false, false] rfl rfl (any_of HT_.out (by kernel_rfl)) (fun _ _ _ h => h) (Or.inl ⟨by rfl, ?_⟩) ?_ ?_
  rotate_left
  · intro w'
    go_simp
    with_reducible rfl
  rotate_left
  · simp only [Act.put, List.setIfInBounds_toArray, List.set_cons_zero, List.set_cons_succ, i64_w, i32_w]
    rfl
  refine pure_ (i := 1) (N := some 20) (v := ?_) (a' := ?_) #[true, true, false, false, false, false, false, false, false, false, false, false, false, false, false, false, false] rfl rfl (any_of HT_.out (by kernel_rfl)) (fun _ _ _ h => h) (Or.inl ⟨by rfl, ?_⟩) ?_ ?_
  rotate_left
  · intro w'
    go_simp
    with_reducible rfl
  rotate_left
  · simp only [Act.put, List.setIfInBounds_toArray, List.set_cons_zero, List.set_cons_succ, i64_w, i32_w]
    rfl
  refine pure_ (i := 2) (N := some 21) (v := ?_) (a' := ?_) #[true, true, true, false, false, false, false, false, false, false, false, false, false, false, false, false, false] rfl rfl (any_of HT_.out (by kernel_rfl)) (fun _ _ _ h => h) (Or.inl ⟨by rfl, ?_⟩) ?_ ?_
  rotate_left
  · intro w'
    go_simp
    with_reducible rfl
  rotate_left
  · simp only [Act.put, List.setIfInBounds_toArray, List.set_cons_zero, List.set_cons_succ, i64_w, i32_w]
    rfl
  refine pure_ (i := 3) (N := some 22) (v := ?_) (a' := ?_) #[true, true, true, true, false, false, false, false, false, false, false, false, false, false, false, false, false] rfl rfl (any_of HT_.out (by kernel_rfl)) (fun _ _ _ h => h) (Or.inl ⟨by rfl, ?_⟩) ?_ ?_
  rotate_left
  · intro w'
    go_simp
    with_reducible rfl
  rotate_left
  · simp only [Act.put, List.setIfInBounds_toArray, List.set_cons_zero, List.set_cons_succ, i64_w, i32_w]
    rfl
  refine pure_ (i := 4) (N := some 23) (v := ?_) (a' := ?_) #[true, true, true, true, true, false, false, false, false, false, false, false, false, false, false, false, false] rfl rfl (any_of HT_.out (by kernel_rfl)) (fun _ _ _ h => h) (Or.inl ⟨by rfl, ?_⟩) ?_ ?_
  rotate_left
  · intro w'
    go_simp
    with_reducible rfl
  rotate_left
  · simp only [Act.put, List.setIfInBounds_toArray, List.set_cons_zero, List.set_cons_succ, i64_w, i32_w]
    rfl
  refine pure_ (i := 8) (N := some 27) (v := ?_) (a' := ?_) #[true, true, true, true, true, false, false, false, true, false, false, false, false, false, false, false, false] rfl rfl (any_of HT_.out (by kernel_rfl)) (fun _ _ _ h => h) (Or.inl ⟨by rfl, ?_⟩) ?_ ?_
  rotate_left
  · intro w'
    go_simp
    with_reducible rfl
  rotate_left
  · simp only [Act.put, List.setIfInBounds_toArray, List.set_cons_zero, List.set_cons_succ, i64_w, i32_w]
    rfl
  refine pure_ (i := 9) (N := some 28) (v := ?_) (a' := ?_) #[true, true, true, true, true, false, false, false, true, true, false, false, false, false, false, false, false] rfl rfl (any_of HT_.out (by kernel_rfl)) (fun _ _ _ h => h) (Or.inl ⟨by rfl, ?_⟩) ?_ ?_
  rotate_left
  · intro w'
    go_simp
    with_reducible rfl
  rotate_left
  · simp only [Act.put, List.setIfInBounds_toArray, List.set_cons_zero, List.set_cons_succ, i64_w, i32_w]
    rfl
  refine pure_ (i := 10) (N := some 29) (v := ?_) (a' := ?_) #[true, true, true, true, true, false, false, false, true, true, true, false, false, false, false, false, false] rfl rfl (any_of HT_.out (by kernel_rfl)) (fun _ _ _ h => h) (Or.inl ⟨by rfl, ?_⟩) ?_ ?_
  rotate_left
  · intro w'
    go_simp
    with_reducible rfl
  rotate_left
  · simp only [Act.put, List.setIfInBounds_toArray, List.set_cons_zero, List.set_cons_succ, i64_w, i32_w]
    rfl
  refine pure_ (i := 11) (N := some 30) (v := ?_) (a' := ?_) #[true, true, true, true, true, false, false, false, true, true, true, true, false, false, false, false, false] rfl rfl (any_of HT_.out (by kernel_rfl)) (fun _ _ _ h => h) (Or.inl ⟨by rfl, ?_⟩) ?_ ?_
  rotate_left
  · intro w'
    go_simp
    with_reducible rfl
  rotate_left
  · simp only [Act.put, List.setIfInBounds_toArray, List.set_cons_zero, List.set_cons_succ, i64_w, i32_w]
    rfl
  refine take_ (i := 5) (N := some 24) (v := ?_) (a' := ?_) #[true, true, true, true, true, true, false, false, true, true, true, true, false, false, false, false, false] rfl rfl (take_ofW HT_.out HW_.out (by kernel_rfl)) (fun _ _ _ h => h) (Or.inl ⟨by rfl, ?_⟩) hHeld ?_ ?_
  rotate_left
  · intro w' s0
    go_simp
    with_reducible rfl
  rotate_left
  · simp only [Act.put, List.setIfInBounds_toArray, List.set_cons_zero, List.set_cons_succ, i64_w, i32_w]
    rfl
  refine pure_ (i := 6) (N := some 25) (v := ?_) (a' := ?_) #[true, true, true, true, true, true, true, false, true, true, true, true, false, false, false, false, false] rfl rfl (any_of HT_.out (by kernel_rfl)) (fun _ _ _ h => h) (Or.inl ⟨by rfl, ?_⟩) ?_ ?_
  rotate_left
  · intro w'
    go_simp
    with_reducible rfl
  rotate_left
  · simp only [Act.put, List.setIfInBounds_toArray, List.set_cons_zero, List.set_cons_succ, i64_w, i32_w]
    rfl
  refine take_ (i := 12) (N := some 31) (v := ?_) (a' := ?_) #[true, true, true, true, true, true, true, false, true, true, true, true, true, false, false, false, false] rfl rfl (take_ofW HT_.out HW_.out (by kernel_rfl)) (fun _ _ _ h => h) (Or.inl ⟨by rfl, ?_⟩) hHeld ?_ ?_
  rotate_left
  · intro w' s0
    go_simp
    with_reducible rfl
  rotate_left
  · simp only [Act.put, List.setIfInBounds_toArray, List.set_cons_zero, List.set_cons_succ, i64_w, i32_w]
    rfl
  refine pure_ (i := 13) (N := some 32) (v := ?_) (a' := ?_) #[true, true, true, true, true, true, true, false, true, true, true, true, true, true, false, false, false] rfl rfl (any_of HT_.out (by kernel_rfl)) (fun _ _ _ h => h) (Or.inl ⟨by rfl, ?_⟩) ?_ ?_
  rotate_left
  · intro w'
    go_simp
    with_reducible rfl
  rotate_left
  · simp only [Act.put, List.setIfInBounds_toArray, List.set_cons_zero, List.set_cons_succ, i64_w, i32_w]
    rfl
  refine one_ (i := 7) (N := some 26) #[true, true, true, true, true, true, true, true, true, true, true, true, true, true, false, false, false] rfl rfl (one_of HT_.out (by kernel_rfl)) (by decide) (fun K hK => ?_)
  refine goes_ Try.func26 (by kernel_rfl) rfl #[.pointer (some ⟨g, 0, none⟩), .slice (some ad) k d] (by rfl) rfl rfl (by simp only [List.map_toArray, List.map_cons, List.map_nil]; rfl) ?_
  refine Calls.mono (HP.out _ (below_drew HZ2.out.below)) ?_
  rintro e w7 ⟨b, g0, g1, rfl, hp⟩
  refine ⟨_, rfl, ?_⟩
  refine hK.out _ _ (pw_cell_below hp.below hHeld) (fun hHeld => ?_)
  clear hK K
  refine norm_ (a' := ?_) ?_ ?_
  rotate_left
  · show Act.put _ (some 26) _ = _
    simp only [Act.put, List.setIfInBounds_toArray, List.set_cons_zero, List.set_cons_succ, i64_w, i32_w]
    rfl
  refine one_ (i := 14) (N := some 33) #[true, true, true, true, true, true, true, true, true, true, true, true, true, true, true, false, false] rfl rfl (one_of HT_.out (by kernel_rfl)) (by decide) (fun K hK => ?_)
  refine goes_ Try.func40 (by kernel_rfl) rfl #[.slice (some ⟨b, 0, none⟩) 2 2, .slice (some (ad.add k)) (n - k) (d - k), .func (.func 41) #[] #[]] (by rfl) rfl rfl (by simp only [List.map_toArray, List.map_cons, List.map_nil]; rfl) ?_
  refine Calls.mono (HE.out _ (below_then (below_drew HZ2.out.below) (below_drew HZ2.out.below).size hp.below) b g0 g1 _ hp) ?_
  rintro e w14 ⟨rfl, hb⟩
  refine ⟨_, rfl, ?_⟩
  have hz14 := (HZ2.out.then_ (below_then (below_drew (Below.refl w2.heap.size w2)) (Nat.le_refl _) hp.below)).then_ hb
  have HZ15 := Aside0.mk ((hz14.set0 (.bool bb)).set1 (.int .i64 0))
  have c0 := hz14.c0
  have f0 := hz14.f0
  have c1 := (hz14.set0 (.bool bb)).c1
  have f1 := hz14.f1
  refine hK.out _ _ (pw_cell_below hb hHeld) (fun hHeld => ?_)
  clear hK K
  refine norm_ (a' := ?_) ?_ ?_
  rotate_left
  · show Act.put _ (some 33) _ = _
    simp only [Act.put, List.setIfInBounds_toArray, List.set_cons_zero, List.set_cons_succ, i64_w, i32_w]
    rfl
  refine last_ (i := 15) (N := none) #[true, true, true, true, true, true, true, true, true, true, true, true, true, true, true, true, false] rfl rfl (one_of HT_.out (by kernel_rfl)) (by decide) (fun K hK => ?_)
  refine skip_ (w1 := ?_) (by rfl) rfl ?_ ?_
  rotate_left
  · go_simp
    rfl
  refine hK.out _ _ ?_
  clear hK K
  refine last_ (i := 16) (N := none) #[true, true, true, true, true, true, true, true, true, true, true, true, true, true, true, true, true] rfl rfl (one_of HT_.out (by kernel_rfl)) (by decide) (fun K hK => ?_)
  refine skip_ (w1 := ?_) (by rfl) rfl ?_ ?_
  rotate_left
  · go_simp
    rfl
  refine hK.out _ _ ?_
  clear hK K
  refine done_ (done_of HT_.out (by kernel_rfl)) ?_
  go_wp2_with fail
  refine leaves_cons (f := 21) (args := #[.pointer (some ⟨w.heap.size + 1, 0, none⟩), .func (.func 39) #[] #[.pointer (some ⟨w.heap.size, 0, none⟩)]]) (by simp) (by simp [go_sem]) ?_
  refine (told_idle ⟨w.heap.size + 1, 0, none⟩ _ _).mono ?_
  rintro e u' w'' ⟨rfl, rfl, rfl⟩
  have r0 := HZ15.out.c0
  have r1 := HZ15.out.c1
  simp [Leaves, settle, results, Try.results18, go_sem, r0, r1]
  exact ⟨rfl, HZ15.out.below⟩
end Go.Proofs.Ytjolnjckgoilpaa.Rs
