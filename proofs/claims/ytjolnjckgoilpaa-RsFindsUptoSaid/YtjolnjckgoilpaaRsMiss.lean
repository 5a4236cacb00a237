/-
  rs.missing, (*rs.Code).Parity.
-/
import Derived.Test.YtjolnjckgoilpaaRsPar
set_option linter.unusedVariables false
set_option linter.unusedSimpArgs false
namespace Go.Proofs.Ytjolnjckgoilpaa.Rs
open Go.RowKit Go.Proofs.YtjolnjckgoilpaaW.PrintWords Go.Proofs.YtjolnjckgoilpaaW.PrintLast Go.Proofs.YtjolnjckgoilpaaW.PrintMore Go.Proofs.Ytjolnjckgoilpaa.PRa Go.Proofs.Ytjolnjckgoilpaa.Gf
/-- The numbers of the shards that are missing, from i on. -/
def missFrom (l : List (List Int)) (i d : Nat) : List Int := ((List.range' i d).filter fun (q : Nat) => decide ((row l q).length = 0)).map fun (q : Nat) => (q : Int)
def missL (l : List (List Int)) : List Int := missFrom l 0 l.length
theorem missFrom_succ (l : List (List Int)) (i d : Nat) : missFrom l i (d + 1) = (if (row l i).length = 0 then [(i : Int)] else []) ++ missFrom l (i + 1) d := by
  unfold missFrom
  rw [List.range'_succ, List.filter_cons]
  by_cases h : (row l i).length = 0
  · simp [h]
  · simp [h]
theorem missing_l0 (l : List (List Int)) (hl : l.length ≤ 100000000) : ∀ (d k i : Nat) (acc : List Int), d + i = l.length → d < k → acc.length ≤ i → rs_missing.l0 k acc l (l.length : Int) i = some (acc ++ missFrom l i d) := by
  intro d
  induction d with
  | zero =>
    intro k i acc hd hk ha
    obtain ⟨k, rfl⟩ : ∃ m, k = m + 1 := ⟨k - 1, by omega⟩
    simp only [rs_missing.l0]
    rw [if_neg (by omega)]
    simp [missFrom]
  | succ d ih =>
    intro k i acc hd hk ha
    obtain ⟨k, rfl⟩ : ∃ m, k = m + 1 := ⟨k - 1, by omega⟩
    simp only [rs_missing.l0]
    have e : rd_L1 l (i : Int) = row l i := by simp [rd_L1, row]
    have e2 : wrap64 ((i : Int) + 1) = ((i + 1 : Nat) : Int) := by unfold wrap64; omega
    rw [if_pos (by omega), if_pos (by omega), if_pos (by omega), e, e2, missFrom_succ]
    by_cases h : (row l i).length = 0
    · rw [if_pos (by omega), if_pos (by omega), if_pos h, ih k (i + 1) _ (by omega) (by omega) (by simp; omega)]
      simp
    · rw [if_neg (by omega), if_neg h, ih k (i + 1) _ (by omega) (by omega) (by omega)]
      simp
theorem missing24 (w : World) (A : Option Addr) (c : Nat) (l : List (List Int)) (hC : KR.C w A l.length l) (hc : l.length ≤ c) (hl : l.length ≤ 100000000) :
    Calls Try.prog 24 #[.slice A l.length c] w fun e w' => ∃ B d, e = .returned (.slice B (missL l).length d) ∧ Kd.R (Kd.int .i64) 3 w' w.heap.size (fun _ => True) (.slice B (missL l).length d) (missL l) ∧ Below w.heap.size w w' := by
  refine (rs_missing.calls (l.length + 1) A c l (missL l) w hC hc ?_).mono ?_
  · unfold rs_missing.f missL
    have := missing_l0 l hl l.length (l.length + 1) 0 [] (by omega) (by omega) (by simp)
    simpa using this
  · rintro e w' ⟨v, rfl, hR, hb⟩
    obtain ⟨B, d, rfl, _⟩ := Kd.R_reads hR
    exact ⟨B, d, rfl, hR, hb⟩
def ParityQ (w : World) (k m : Nat) (l : List (List Int)) (e : Ending) (w' : World) : Prop := ∃ b g0 g1, e = .returned (.tuple #[.slice (some ⟨b, 0, none⟩) 2 2, .int .i64 0]) ∧ PairAt w w' b g0 g1 m (tcol (rho 0) l k) (tcol (rho 1) l k)
def NoQ (w : World) (x : Int) (e : Ending) (w' : World) : Prop := e = .returned (.tuple #[.slice none 0 0, .int .i64 x]) ∧ Below w.heap.size w w'
/-- The world with the two results' variables. -/
def two (w : World) : World := (w.alloc (.cells #[.slice none 0 0] 22)).alloc (.cells #[.int .i64 0] 27)
theorem two_below (w : World) : Below w.heap.size w (two w) := below_alloc (below_alloc (Below.refl _ _) _) _
theorem two_size (w : World) : (two w).heap.size = w.heap.size + 2 := by simp [two]
theorem two_at0 (w : World) : (two w).heap[w.heap.size]? = some (.cells #[.slice none 0 0] 22 (0, 0)) := blkalloc (heap_alloc_last _ _) _
theorem two_at1 (w : World) : (two w).heap[w.heap.size + 1]? = some (.cells #[.int .i64 0] 27 (0, 0)) := by
  have := heap_alloc_last (w.alloc (.cells #[.slice none 0 0] 22)) (.cells #[.int .i64 0] 27)
  rw [World.size_alloc] at this
  exact this
structure Two (w W : World) (v0 v1 : Value) : Prop where
  below : Below w.heap.size w W
  at0 : W.heap[w.heap.size]? = some (.cells #[v0] 22 (0, 0))
  at1 : W.heap[w.heap.size + 1]? = some (.cells #[v1] 27 (0, 0))
theorem Two.start (w : World) : Two w (two w) (.slice none 0 0) (.int .i64 0) := ⟨two_below w, two_at0 w, two_at1 w⟩
theorem Two.then_ {w W W1 : World} {v0 v1 : Value} (h : Two w W v0 v1) (hb : Below W.heap.size W W1) : Two w W1 v0 v1 := ⟨below_then h.below h.below.size hb, (hb.block _ (heap_lt h.at0)).trans h.at0, (hb.block _ (heap_lt h.at1)).trans h.at1⟩
theorem Two.set0 {w W : World} {v0 v1 : Value} (h : Two w W v0 v1) (u : Value) : Two w (W.setCell ⟨w.heap.size, 0, none⟩ u) u v1 := ⟨below_set h.below (Nat.le_refl _), blkset h.at0 0 u, blkfar h.at1 (p := ⟨w.heap.size, 0, none⟩) (Nat.succ_ne_self _) u⟩
theorem Two.set1 {w W : World} {v0 v1 : Value} (h : Two w W v0 v1) (u : Value) : Two w (W.setCell ⟨w.heap.size + 1, 0, none⟩ u) v0 u := ⟨below_set h.below (by omega), blkfar h.at0 (p := ⟨w.heap.size + 1, 0, none⟩) (by show _ ≠ _ + 1; omega) u, blkset h.at1 0 u⟩
theorem Two.c0 {w W : World} {v0 v1 : Value} (h : Two w W v0 v1) : W.cell? ⟨w.heap.size, 0, none⟩ = some v0 := by rw [cell_of_row W _ 0 _ 22 (0, 0) h.at0]; rfl
theorem Two.c1 {w W : World} {v0 v1 : Value} (h : Two w W v0 v1) : W.cell? ⟨w.heap.size + 1, 0, none⟩ = some v1 := by rw [cell_of_row W _ 0 _ 27 (0, 0) h.at1]; rfl
theorem Two.f0 {w W : World} {v0 v1 : Value} (h : Two w W v0 v1) : W.frozen? ⟨w.heap.size, 0, none⟩ = false := frozen_blk h.at0
theorem Two.f1 {w W : World} {v0 v1 : Value} (h : Two w W v0 v1) : W.frozen? ⟨w.heap.size + 1, 0, none⟩ = false := frozen_blk h.at1
theorem PairAt.two {w W W1 : World} {b g0 g1 m : Nat} {f0 f1 : Nat → Nat} {v0 v1 : Value} (hz : Two w W v0 v1) (h : PairAt W W1 b g0 g1 m f0 f1) (u0 u1 : Value) :
    PairAt w ((W1.setCell ⟨w.heap.size, 0, none⟩ u0).setCell ⟨w.heap.size + 1, 0, none⟩ u1) b g0 g1 m f0 f1 := by
  have h1 := heap_lt hz.at1
  have h2 := h.ge
  have h3 := h.lt
  have h4 := h.lt2
  exact ⟨(((hz.then_ h.below).set0 u0).set1 u1).below, blkfar (blkfar h.top (by show b ≠ w.heap.size; omega) _) (by show b ≠ w.heap.size + 1; omega) _,
    (h.row0.far (by show g0 ≠ w.heap.size; omega) _).far (by show g0 ≠ w.heap.size + 1; omega) _, (h.row1.far (by show g1 ≠ w.heap.size; omega) _).far (by show g1 ≠ w.heap.size + 1; omega) _, by omega, h3, h4⟩
set_option maxHeartbeats 8000000 in
set_option maxRecDepth 100000 in
theorem parity11_ok (w : World) (g k : Nat) (hc : CodeAt w g k) (hk : 1 ≤ k) (hk2 : k ≤ 32) (B : Option Addr) (d : Nat) (l : List (List Int)) (hL : KR.C w B k l) (hl : l.length = k) (hd : k ≤ d) (m : Nat) (hm9 : m ≤ 1000000) (hok : okB l = true) (hm : ∀ i, i < k → (row l i).length = m) (hs : sizesB 0 l = true) (hmiss : missL l = []) :
    Calls Try.prog 11 #[.pointer (some ⟨g, 0, none⟩), .slice B k d] w (ParityQ w k m l) := by
  have HC := Aside0.mk hc
  have HA := Aside0.mk (fun (W : World) (hW : Below w.heap.size w W) => (by have := alike23 W (k : Int) B d l (by rw [hl]; exact Kd.C_below hL hW) (by omega); rw [hl] at this; refine this.mono ?_; rintro e w' ⟨h, h2⟩; rw [if_pos ⟨by omega, hs⟩] at h; exact ⟨h, h2⟩ : Calls Try.prog 23 #[.int .i64 k, .slice B k d] W fun e w' => e = .returned (.tuple #[]) ∧ w' = W))
  have HM := Aside0.mk (fun (W : World) (hW : Below w.heap.size w W) => (by have := missing24 W B d l (by rw [hl]; exact Kd.C_below hL hW) (by omega) (by omega); rw [hl, hmiss] at this; refine this.mono ?_; rintro e w' ⟨B', d', rfl, h, h2⟩; exact ⟨B', d', rfl, h2⟩ : Calls Try.prog 24 #[.slice B k d] W fun e w' => ∃ B' d', e = .returned (.slice B' 0 d') ∧ Below W.heap.size W w'))
  have HP := Aside0.mk (fun (W : World) (hW : Below w.heap.size w W) => parity26 W g k (hc.below hW) hk hk2 B d l (Kd.C_below hL hW) hl m hm9 hok hm)
  obtain ⟨Ac, cc, hg, hcc2, hCC⟩ := hc
  have cg : w.cell? ⟨g, 0, none⟩ = some (.int .i64 k) := by rw [cell_of_row w g 0 _ 48 (0, 0) hg]; rfl
  have hgl : g < w.heap.size := heap_lt hg
  have hZ := Two.start w
  replace cg := pw_cell_below hZ.below cg
  have HZ := Aside0.mk hZ
  unfold two at HZ cg
  clear hL hg hCC hZ hm hok
  have hmf : ∀ (fn : Fn) (first cap : Array Value) (w : World), (Instr.makeFunc fn first cap).run Try.prog w = .ok (.func fn first cap) w := fun _ _ _ _ => rfl
  go_enter_defers Try.func11, Try.ntmps11
  go_wp2_with (first
    | (go_at_call 23; refine Calls.mono (HA.out _ HZ.out.below) ?_; rintro e w1 ⟨rfl, rfl⟩)
    | (go_at_call 24; refine Calls.mono (HM.out _ HZ.out.below) ?_; rintro e w2 ⟨B', d', rfl, hb2⟩; have HZ2 := Aside0.mk (HZ.out.then_ hb2); clear cg HZ)
    | (go_at_call 26; refine Calls.mono (HP.out _ HZ2.out.below) ?_; rintro e w3 ⟨b, g0, g1, rfl, hpa⟩
       have HZ3 := Aside0.mk (HZ2.out.then_ hpa.below)
       have HPA := Aside0.mk (hpa.two HZ2.out (.slice (some ⟨b, 0, none⟩) 2 2) (.int .i64 0))
       have HZ4 := Aside0.mk (HZ3.out.set0 (.slice (some ⟨b, 0, none⟩) 2 2))
       have HZ5 := Aside0.mk (HZ4.out.set1 (.int .i64 0))
       have c0 := HZ3.out.c0
       have c1 := HZ4.out.c1
       have f0 := HZ3.out.f0
       have f1 := HZ3.out.f1
       clear hpa HZ2))
  refine leaves_cons (f := 21) (args := #[.pointer (some ⟨w.heap.size + 1, 0, none⟩), .func (.func 22) #[] #[.pointer (some ⟨w.heap.size, 0, none⟩)]]) (by simp) (by simp [go_sem]) ?_
  refine (told_idle ⟨w.heap.size + 1, 0, none⟩ _ _).mono ?_
  rintro e u' w'' ⟨rfl, rfl, rfl⟩
  have r0 := HZ5.out.c0
  have r1 := HZ5.out.c1
  simp [Leaves, settle, results, Try.results11, go_sem, r0, r1]
  exact ⟨_, _, _, rfl, HPA.out⟩
/-- The door of a panic that was given: the error is told. -/
theorem Two.told {w W : World} {v0 v1 : Value} (h : Two w W v0 v1) (x : Int) : Two w ((W.setCell ⟨w.heap.size + 1, 0, none⟩ (.int .i64 x)).setCell ⟨w.heap.size, 0, none⟩ (.slice none 0 0)) (.slice none 0 0) (.int .i64 x) := (h.set1 _).set0 _
theorem told_two {w W : World} {v0 v1 : Value} (h : Two w W v0 v1) (x : Int) :
    CallsD Try.prog 21 #[.pointer (some ⟨w.heap.size + 1, 0, none⟩), .func (.func 22) #[] #[.pointer (some ⟨w.heap.size, 0, none⟩)]] (.panicking (panicV x)) W fun e u' w' =>
      e = .returned (.tuple #[]) ∧ u' = .panicking [{ v := .iface 27 (.int .i64 x), recovered := true }] ∧ w' = ((W.setCell ⟨w.heap.size + 1, 0, none⟩ (.int .i64 x)).setCell ⟨w.heap.size, 0, none⟩ (.slice none 0 0)) :=
  told_caught ⟨w.heap.size + 1, 0, none⟩ ⟨w.heap.size, 0, none⟩ 22 (.slice none 0 0) x [] W v0 (fun W1 hc hz => nil22 _ W1 v0 hc hz) enter22 v1 h.c1 h.f1 h.c0 h.f0 (by intro e; injection e with e; omega)
set_option maxHeartbeats 8000000 in
set_option maxRecDepth 100000 in
theorem parity11_no (w : World) (g k : Nat) (hc : CodeAt w g k) (B : Option Addr) (d : Nat) (l : List (List Int)) (hL : KR.C w B l.length l) (hd : l.length ≤ d) (hl9 : l.length ≤ 100000000) (hno : ¬ (((l.length : Int) = (k : Int) ∧ sizesB 0 l = true) ∧ missL l = [])) :
    Calls Try.prog 11 #[.pointer (some ⟨g, 0, none⟩), .slice B l.length d] w (NoQ w 1) := by
  have HA := Aside0.mk (fun (W : World) (hW : Below w.heap.size w W) => alike23 W (k : Int) B d l (Kd.C_below hL hW) hl9)
  have HM := Aside0.mk (fun (W : World) (hW : Below w.heap.size w W) => missing24 W B d l (Kd.C_below hL hW) hd hl9)
  obtain ⟨Ac, cc, hg, hcc2, hCC⟩ := hc
  have cg : w.cell? ⟨g, 0, none⟩ = some (.int .i64 k) := by rw [cell_of_row w g 0 _ 48 (0, 0) hg]; rfl
  have hgl : g < w.heap.size := heap_lt hg
  have hZ := Two.start w
  replace cg := pw_cell_below hZ.below cg
  have HZ := Aside0.mk hZ
  unfold two at HZ cg
  obtain ⟨n, hn⟩ : ∃ n, l.length = n := ⟨_, rfl⟩
  rw [hn] at HA HM hno ⊢
  have HN := Aside0.mk hn
  clear hL hg hCC hZ hd hl9 hn
  have hmf : ∀ (fn : Fn) (first cap : Array Value) (w : World), (Instr.makeFunc fn first cap).run Try.prog w = .ok (.func fn first cap) w := fun _ _ _ _ => rfl
  by_cases ha : (n : Int) = (k : Int) ∧ sizesB 0 l = true
  · have hmp : 0 < (missL l).length := by
      rcases Nat.eq_zero_or_pos (missL l).length with h | h
      · exact absurd ⟨ha, List.eq_nil_of_length_eq_zero h⟩ hno
      · exact h
    have HA2 := Aside0.mk (fun (W : World) (hW : Below w.heap.size w W) => (by refine (HA.out W hW).mono ?_; rintro e w' ⟨h, h2⟩; rw [if_pos (by first | exact ha | (rw [HN.out]; exact ha))] at h; exact ⟨h, h2⟩ : Calls Try.prog 23 #[.int .i64 k, .slice B n d] W fun e w' => e = .returned (.tuple #[]) ∧ w' = W))
    clear HA hno ha
    obtain ⟨q, hq⟩ : ∃ q, (missL l).length = q := ⟨_, rfl⟩
    rw [hq] at HM hmp
    clear hq
    have hqd : decide ((0 : Int) < (q : Int)) = true := decide_eq_true (by omega)
    go_enter_defers Try.func11, Try.ntmps11
    go_wp2_with (first
      | (go_at_call 23; refine Calls.mono (HA2.out _ HZ.out.below) ?_; rintro e w1 ⟨rfl, rfl⟩)
      | (go_at_call 24; refine Calls.mono (HM.out _ HZ.out.below) ?_; rintro e w2 ⟨B', d', rfl, _, hb2⟩; have HZ2 := Aside0.mk (HZ.out.then_ hb2); clear cg HZ)
      | (go_at_call 25; refine Calls.mono (give25 _ _) ?_; rintro e w3 ⟨rfl, rfl⟩))
    refine leaves_cons (f := 21) (args := #[.pointer (some ⟨w.heap.size + 1, 0, none⟩), .func (.func 22) #[] #[.pointer (some ⟨w.heap.size, 0, none⟩)]]) (by simp) (by simp [go_sem]) ?_
    refine (told_two HZ2.out 1).mono ?_
    rintro e u' w'' ⟨rfl, rfl, rfl⟩
    have HZ5 := HZ2.out.told 1
    have r0 := HZ5.c0
    have r1 := HZ5.c1
    simp [Leaves, settle, results, Try.results11, go_sem, r0, r1]
    exact ⟨rfl, HZ5.below⟩
  · have HA2 := Aside0.mk (fun (W : World) (hW : Below w.heap.size w W) => (by refine (HA.out W hW).mono ?_; rintro e w' ⟨h, h2⟩; rw [if_neg (by first | exact ha | (rw [HN.out]; exact ha))] at h; exact ⟨h, h2⟩ : Calls Try.prog 23 #[.int .i64 k, .slice B n d] W fun e w' => e = .panicked (panicV 1) ∧ w' = W))
    clear HA hno ha HM
    go_enter_defers Try.func11, Try.ntmps11
    go_wp2_with (first
      | (go_at_call 23; refine Calls.mono (HA2.out _ HZ.out.below) ?_; rintro e w1 ⟨rfl, rfl⟩))
    refine leaves_cons (f := 21) (args := #[.pointer (some ⟨w.heap.size + 1, 0, none⟩), .func (.func 22) #[] #[.pointer (some ⟨w.heap.size, 0, none⟩)]]) (by simp) (by simp [go_sem]) ?_
    refine (told_two HZ.out 1).mono ?_
    rintro e u' w'' ⟨rfl, rfl, rfl⟩
    have HZ5 := HZ.out.told 1
    have r0 := HZ5.c0
    have r1 := HZ5.c1
    simp [Leaves, settle, results, Try.results11, go_sem, r0, r1]
    exact ⟨rfl, below_alloc (below_alloc (Below.refl _ _) _) _⟩
end Go.Proofs.Ytjolnjckgoilpaa.Rs
