/-
  The law's helpers few and known; K; Rebuild's errors.
-/
import Derived.Test.YtjolnjckgoilpaaRsMiss
set_option linter.unusedVariables false
set_option linter.unusedSimpArgs false
namespace Go.Proofs.Ytjolnjckgoilpaa.Rs
open Go.RowKit Go.Proofs.YtjolnjckgoilpaaW.PrintWords Go.Proofs.YtjolnjckgoilpaaW.PrintLast Go.Proofs.YtjolnjckgoilpaaW.PrintMore Go.Proofs.Ytjolnjckgoilpaa.PRa Go.Proofs.Ytjolnjckgoilpaa.Gf
def fewB (l : List (List Int)) : Bool := decide (l.length ≤ 40) && decide ((l.map List.length).sum ≤ 4000)
theorem few_l0 (l : List (List Int)) (hb : (l.map List.length).sum ≤ 100000000) (hl : l.length ≤ 100000000) : ∀ (d k i s : Nat), d + i = l.length → d < k → s + ((l.drop i).map List.length).sum ≤ 100000000 → flintlaw6_few.l0 k l s i = some (decide (l.length ≤ 40) && decide (s + ((l.drop i).map List.length).sum ≤ 4000)) := by
  intro d
  induction d with
  | zero =>
    intro k i s hd hk hs
    obtain ⟨k, rfl⟩ : ∃ m, k = m + 1 := ⟨k - 1, by omega⟩
    simp only [flintlaw6_few.l0]
    rw [if_neg (by omega), List.drop_eq_nil_of_le (by omega)]
    by_cases h : l.length ≤ 40
    · rw [if_pos (by omega), decide_eq_true h]
      simp
      omega
    · rw [if_neg (by omega), decide_eq_false h]
      rfl
  | succ d ih =>
    intro k i s hd hk hs
    obtain ⟨k, rfl⟩ : ∃ m, k = m + 1 := ⟨k - 1, by omega⟩
    simp only [flintlaw6_few.l0]
    have e := row_len (l := l) (k := i) (by omega)
    rw [e] at hs ⊢
    simp only [List.map_cons, List.sum_cons] at hs ⊢
    have e2 : wrap64 ((i : Int) + 1) = ((i + 1 : Nat) : Int) := by unfold wrap64; omega
    have e3 : wrap64 ((s : Int) + ((rd_L1 l (i : Int)).length : Int)) = ((s + (rd_L1 l (i : Int)).length : Nat) : Int) := by unfold wrap64; omega
    rw [if_pos (by omega), if_pos (by omega), e2, e3, ih k (i + 1) _ (by omega) (by omega) (by omega), Nat.add_assoc]
theorem few9 (w : World) (A : Option Addr) (c : Nat) (l : List (List Int)) (hC : KR.C w A l.length l) (hc : l.length ≤ c) (hl : l.length ≤ 100000000) (hb : (l.map List.length).sum ≤ 100000000) :
    Calls Try.prog 9 #[.slice A l.length c] w fun e w' => e = .returned (.bool (fewB l)) ∧ Drawn0 w w' := by
  refine flintlaw6_few.calls (l.length + 1) A c l (fewB l) w hC hc ?_
  have := few_l0 l hb hl l.length (l.length + 1) 0 0 (by omega) (by omega) (by simpa using hb)
  unfold flintlaw6_few.f fewB
  simpa using this
theorem k16 (w : World) (g k : Nat) (hc : CodeAt w g k) : Calls Try.prog 16 #[.pointer (some ⟨g, 0, none⟩)] w fun e w' => e = .returned (.int .i64 k) ∧ w' = w := by
  obtain ⟨Ac, cc, hg, hcc2, hCC⟩ := hc
  have cg : w.cell? ⟨g, 0, none⟩ = some (.int .i64 k) := by rw [cell_of_row w g 0 _ 48 (0, 0) hg]; rfl
  go_enter Try.func16, Try.ntmps16
  go_wp2_with fail
  go_ret
  exact ⟨rfl, rfl⟩
theorem nil27 (q : Addr) (w : World) (v : Value) (hc : w.cell? q = some v) (hz : w.frozen? q = false) : Calls Try.prog 27 #[.pointer (some q)] w fun e w' => e = .returned (.tuple #[]) ∧ w' = w.setCell q (.slice none 0 0) := by
  go_enter Try.func27, Try.ntmps27
  go_wp2
  go_end0
  exact ⟨rfl, rfl⟩
theorem enter27 (args : Array Value) (w : World) : (callFunc 27 args).run Try.prog w = .ok (.enter 27 args) w := Go.Proofs.enters_of Try.func27 (by kernel_rfl) rfl args w
theorem told_two27 {w W : World} {v0 v1 : Value} (h : Two w W v0 v1) (x : Int) :
    CallsD Try.prog 21 #[.pointer (some ⟨w.heap.size + 1, 0, none⟩), .func (.func 27) #[] #[.pointer (some ⟨w.heap.size, 0, none⟩)]] (.panicking (panicV x)) W fun e u' w' =>
      e = .returned (.tuple #[]) ∧ u' = .panicking [{ v := .iface 27 (.int .i64 x), recovered := true }] ∧ w' = ((W.setCell ⟨w.heap.size + 1, 0, none⟩ (.int .i64 x)).setCell ⟨w.heap.size, 0, none⟩ (.slice none 0 0)) :=
  told_caught ⟨w.heap.size + 1, 0, none⟩ ⟨w.heap.size, 0, none⟩ 27 (.slice none 0 0) x [] W v0 (fun W1 hc hz => nil27 _ W1 v0 hc hz) enter27 v1 h.c1 h.f1 h.c0 h.f0 (by intro e; injection e with e; omega)
set_option maxHeartbeats 8000000 in
set_option maxRecDepth 100000 in
theorem rebuild12_lost (w : World) (g k : Nat) (hc : CodeAt w g k) (hk : k ≤ 32) (B : Option Addr) (d : Nat) (l : List (List Int)) (hL : KR.C w B l.length l) (hd : l.length ≤ d) (hl9 : l.length ≤ 100000000) (ha : l.length = k + 2 ∧ sizesB 0 l = true) (hlost : 2 < (missL l).length) :
    Calls Try.prog 12 #[.pointer (some ⟨g, 0, none⟩), .slice B l.length d] w (NoQ w 7) := by
  have hw2 : wrap64 ((k : Int) + 2) = (k : Int) + 2 := by unfold wrap64; omega
  have HA := Aside0.mk (fun (W : World) (hW : Below w.heap.size w W) => (by refine (alike23 W ((k : Int) + 2) B d l (Kd.C_below hL hW) hl9).mono ?_; rintro e w' ⟨h, h2⟩; rw [if_pos ⟨by omega, ha.2⟩] at h; exact ⟨h, h2⟩ : Calls Try.prog 23 #[.int .i64 ((k : Int) + 2), .slice B l.length d] W fun e w' => e = .returned (.tuple #[]) ∧ w' = W))
  have HM := Aside0.mk (fun (W : World) (hW : Below w.heap.size w W) => missing24 W B d l (Kd.C_below hL hW) hd hl9)
  obtain ⟨Ac, cc, hg, hcc2, hCC⟩ := hc
  have cg : w.cell? ⟨g, 0, none⟩ = some (.int .i64 k) := by rw [cell_of_row w g 0 _ 48 (0, 0) hg]; rfl
  have hgl : g < w.heap.size := heap_lt hg
  have hZ := Two.start w
  replace cg := pw_cell_below hZ.below cg
  have HZ := Aside0.mk hZ
  unfold two at HZ cg
  obtain ⟨q, hq⟩ : ∃ q, (missL l).length = q := ⟨_, rfl⟩
  rw [hq] at HM hlost
  obtain ⟨n, hn⟩ : ∃ n, l.length = n := ⟨_, rfl⟩
  rw [hn] at HA HM ⊢
  clear hL hg hCC hZ hd hl9 hn hq ha
  have hqd : decide ((2 : Int) < (q : Int)) = true := decide_eq_true (by omega)
  have hmf : ∀ (fn : Fn) (first cap : Array Value) (w : World), (Instr.makeFunc fn first cap).run Try.prog w = .ok (.func fn first cap) w := fun _ _ _ _ => rfl
  go_enter_defers Try.func12, Try.ntmps12
  go_wp2_with (first
    | (go_at_call 23; refine Calls.mono (HA.out _ HZ.out.below) ?_; rintro e w1 ⟨rfl, rfl⟩)
    | (go_at_call 24; refine Calls.mono (HM.out _ HZ.out.below) ?_; rintro e w2 ⟨B', d', rfl, _, hb2⟩; have HZ2 := Aside0.mk (HZ.out.then_ hb2); clear cg HZ)
    | (go_at_call 25; refine Calls.mono (give25 _ _) ?_; rintro e w3 ⟨rfl, rfl⟩))
  refine leaves_cons (f := 21) (args := #[.pointer (some ⟨w.heap.size + 1, 0, none⟩), .func (.func 27) #[] #[.pointer (some ⟨w.heap.size, 0, none⟩)]]) (by simp) (by simp [go_sem]) ?_
  refine (told_two27 HZ2.out 7).mono ?_
  rintro e u' w'' ⟨rfl, rfl, rfl⟩
  have HZ5 := HZ2.out.told 7
  have r0 := HZ5.c0
  have r1 := HZ5.c1
  simp [Leaves, settle, results, Try.results12, go_sem, r0, r1]
  exact ⟨rfl, HZ5.below⟩
end Go.Proofs.Ytjolnjckgoilpaa.Rs
