/- Several texts of this session laid together: RsNo, RsCk, RsBo, RsCo, RsCc. -/
import Derived.Test.YtjolnjckgoilpaaMHd
import Derived.Test.YtjolnjckgoilpaaRsRr
section
/-
  Rebuild and Check where the shards are not alike, or some are missing.
-/
set_option linter.unusedVariables false
set_option linter.unusedSimpArgs false
namespace Go.Proofs.Ytjolnjckgoilpaa.Rs
open Go.RowKit Go.Proofs.YtjolnjckgoilpaaW.PrintWords Go.Proofs.YtjolnjckgoilpaaW.PrintLast Go.Proofs.YtjolnjckgoilpaaW.PrintMore Go.Proofs.Ytjolnjckgoilpaa.PRa Go.Proofs.Ytjolnjckgoilpaa.Gf
set_option maxHeartbeats 8000000 in
set_option maxRecDepth 100000 in
theorem rebuild12_no (w : World) (g k : Nat) (hc : CodeAt w g k) (hk : k ≤ 32) (B : Option Addr) (d : Nat) (l : List (List Int)) (hL : KR.C w B l.length l) (hl9 : l.length ≤ 100000000) (ha : ¬ (l.length = k + 2 ∧ sizesB 0 l = true)) :
    Calls Try.prog 12 #[.pointer (some ⟨g, 0, none⟩), .slice B l.length d] w (NoQ w 1) := by
  have hw2 : wrap64 ((k : Int) + 2) = (k : Int) + 2 := by unfold wrap64; omega
  have HA := Aside0.mk (fun (W : World) (hW : Below w.heap.size w W) => (by refine (alike23 W ((k : Int) + 2) B d l (Kd.C_below hL hW) hl9).mono ?_; rintro e w' ⟨h, h2⟩; rw [if_neg (fun h3 => ha ⟨by omega, h3.2⟩)] at h; exact ⟨h, h2⟩ : Calls Try.prog 23 #[.int .i64 ((k : Int) + 2), .slice B l.length d] W fun e w' => e = .panicked (panicV 1) ∧ w' = W))
  obtain ⟨Ac, cc, hg, hcc2, hCC⟩ := hc
  have cg : w.cell? ⟨g, 0, none⟩ = some (.int .i64 k) := by rw [cell_of_row w g 0 _ 48 (0, 0) hg]; rfl
  have hgl : g < w.heap.size := heap_lt hg
  have hZ := Two.start w
  replace cg := pw_cell_below hZ.below cg
  have HZ := Aside0.mk hZ
  unfold two at HZ cg
  obtain ⟨n, hn⟩ : ∃ n, l.length = n := ⟨_, rfl⟩
  rw [hn] at HA ⊢
  clear hL hg hCC hZ hl9 hn ha
  have hmf : ∀ (fn : Fn) (first cap : Array Value) (w : World), (Instr.makeFunc fn first cap).run Try.prog w = .ok (.func fn first cap) w := fun _ _ _ _ => rfl
  go_enter_defers Try.func12, Try.ntmps12
  go_wp2_with (first
    | (go_at_call 23; refine Calls.mono (HA.out _ HZ.out.below) ?_; rintro e w1 ⟨rfl, rfl⟩))
  refine leaves_cons (f := 21) (args := #[.pointer (some ⟨w.heap.size + 1, 0, none⟩), .func (.func 27) #[] #[.pointer (some ⟨w.heap.size, 0, none⟩)]]) (by simp) (by simp [go_sem]) ?_
  refine (told_two27 HZ.out 1).mono ?_
  rintro e u' w'' ⟨rfl, rfl, rfl⟩
  have HZ5 := HZ.out.told 1
  have r0 := HZ5.c0
  have r1 := HZ5.c1
  simp [Leaves, settle, results, Try.results12, go_sem, r0, r1]
  exact ⟨rfl, below_alloc (below_alloc (Below.refl _ _) _) _⟩
theorem no39 (q : Addr) (w : World) (v : Value) (hc : w.cell? q = some v) (hz : w.frozen? q = false) : Calls Try.prog 39 #[.pointer (some q)] w fun e w' => e = .returned (.tuple #[]) ∧ w' = w.setCell q (.bool false) := by
  go_enter Try.func39, Try.ntmps39
  go_wp2
  go_end0
  exact ⟨rfl, rfl⟩
theorem enter39 (args : Array Value) (w : World) : (callFunc 39 args).run Try.prog w = .ok (.enter 39 args) w := Go.Proofs.enters_of Try.func39 (by kernel_rfl) rfl args w
theorem TwoC.told {w W : World} {v0 v1 : Value} (h : TwoC w W v0 v1) (x : Int) : TwoC w ((W.setCell ⟨w.heap.size + 1, 0, none⟩ (.int .i64 x)).setCell ⟨w.heap.size, 0, none⟩ (.bool false)) (.bool false) (.int .i64 x) := (h.set1 _).set0 _
theorem told_two39 {w W : World} {v0 v1 : Value} (h : TwoC w W v0 v1) (x : Int) :
    CallsD Try.prog 21 #[.pointer (some ⟨w.heap.size + 1, 0, none⟩), .func (.func 39) #[] #[.pointer (some ⟨w.heap.size, 0, none⟩)]] (.panicking (panicV x)) W fun e u' w' =>
      e = .returned (.tuple #[]) ∧ u' = .panicking [{ v := .iface 27 (.int .i64 x), recovered := true }] ∧ w' = ((W.setCell ⟨w.heap.size + 1, 0, none⟩ (.int .i64 x)).setCell ⟨w.heap.size, 0, none⟩ (.bool false)) :=
  told_caught ⟨w.heap.size + 1, 0, none⟩ ⟨w.heap.size, 0, none⟩ 39 (.bool false) x [] W v0 (fun W1 hc hz => no39 _ W1 v0 hc hz) enter39 v1 h.c1 h.f1 h.c0 h.f0 (by intro e; injection e with e; omega)
/-- What Check tells where it gives up. -/
def NoC (w : World) (e : Ending) (w' : World) : Prop := e = .returned (.tuple #[.bool false, .int .i64 1]) ∧ Below w.heap.size w w'
set_option maxHeartbeats 8000000 in
set_option maxRecDepth 100000 in
theorem check18_no (w : World) (g k : Nat) (hc : CodeAt w g k) (hk : k ≤ 32) (B : Option Addr) (d : Nat) (l : List (List Int)) (hL : KR.C w B l.length l) (hd : l.length ≤ d) (hl9 : l.length ≤ 100000000) (hno : ¬ ((l.length = k + 2 ∧ sizesB 0 l = true) ∧ missL l = [])) :
    Calls Try.prog 18 #[.pointer (some ⟨g, 0, none⟩), .slice B l.length d] w (NoC w) := by
  have hw2 : wrap64 ((k : Int) + 2) = (k : Int) + 2 := by unfold wrap64; omega
  have HA := Aside0.mk (fun (W : World) (hW : Below w.heap.size w W) => alike23 W ((k : Int) + 2) B d l (Kd.C_below hL hW) hl9)
  have HM := Aside0.mk (fun (W : World) (hW : Below w.heap.size w W) => missing24 W B d l (Kd.C_below hL hW) hd hl9)
  obtain ⟨Ac, cc, hg, hcc2, hCC⟩ := hc
  have cg : w.cell? ⟨g, 0, none⟩ = some (.int .i64 k) := by rw [cell_of_row w g 0 _ 48 (0, 0) hg]; rfl
  have hgl : g < w.heap.size := heap_lt hg
  have hZ := TwoC.start w
  replace cg := pw_cell_below hZ.below cg
  have HZ := Aside0.mk hZ
  unfold twoC at HZ cg
  obtain ⟨n, hn⟩ : ∃ n, l.length = n := ⟨_, rfl⟩
  rw [hn] at HA HM hno ⊢
  have HN := Aside0.mk hn
  clear hL hg hCC hZ hd hl9 hn
  have hmf : ∀ (fn : Fn) (first cap : Array Value) (w : World), (Instr.makeFunc fn first cap).run Try.prog w = .ok (.func fn first cap) w := fun _ _ _ _ => rfl
  by_cases ha : n = k + 2 ∧ sizesB 0 l = true
  · have hmp : 0 < (missL l).length := by
      rcases Nat.eq_zero_or_pos (missL l).length with h | h
      · exact absurd ⟨ha, List.eq_nil_of_length_eq_zero h⟩ hno
      · exact h
    have HA2 := Aside0.mk (fun (W : World) (hW : Below w.heap.size w W) => (by refine (HA.out W hW).mono ?_; rintro e w' ⟨h, h2⟩; rw [if_pos ⟨by rw [HN.out]; omega, ha.2⟩] at h; exact ⟨h, h2⟩ : Calls Try.prog 23 #[.int .i64 ((k : Int) + 2), .slice B n d] W fun e w' => e = .returned (.tuple #[]) ∧ w' = W))
    clear HA hno ha
    obtain ⟨q, hq⟩ : ∃ q, (missL l).length = q := ⟨_, rfl⟩
    rw [hq] at HM hmp
    clear hq
    have hqd : decide ((0 : Int) < (q : Int)) = true := decide_eq_true (by omega)
    go_enter_defers Try.func18, Try.ntmps18
    go_wp2_with (first
      | (go_at_call 23; refine Calls.mono (HA2.out _ HZ.out.below) ?_; rintro e w1 ⟨rfl, rfl⟩)
      | (go_at_call 24; refine Calls.mono (HM.out _ HZ.out.below) ?_; rintro e w2 ⟨B', d', rfl, _, hb2⟩; have HZ2 := Aside0.mk (HZ.out.then_ hb2); clear cg HZ)
      | (go_at_call 25; refine Calls.mono (give25 _ _) ?_; rintro e w3 ⟨rfl, rfl⟩))
    refine leaves_cons (f := 21) (args := #[.pointer (some ⟨w.heap.size + 1, 0, none⟩), .func (.func 39) #[] #[.pointer (some ⟨w.heap.size, 0, none⟩)]]) (by simp) (by simp [go_sem]) ?_
    refine (told_two39 HZ2.out 1).mono ?_
    rintro e u' w'' ⟨rfl, rfl, rfl⟩
    have HZ5 := HZ2.out.told 1
    have r0 := HZ5.c0
    have r1 := HZ5.c1
    simp [Leaves, settle, results, Try.results18, go_sem, r0, r1]
    exact ⟨rfl, HZ5.below⟩
  · have HA2 := Aside0.mk (fun (W : World) (hW : Below w.heap.size w W) => (by refine (HA.out W hW).mono ?_; rintro e w' ⟨h, h2⟩; rw [if_neg (fun h3 => ha ⟨by have := h3.1; rw [HN.out] at this; omega, h3.2⟩)] at h; exact ⟨h, h2⟩ : Calls Try.prog 23 #[.int .i64 ((k : Int) + 2), .slice B n d] W fun e w' => e = .panicked (panicV 1) ∧ w' = W))
    clear HA hno ha HM
    go_enter_defers Try.func18, Try.ntmps18
    go_wp2_with (first
      | (go_at_call 23; refine Calls.mono (HA2.out _ HZ.out.below) ?_; rintro e w1 ⟨rfl, rfl⟩))
    refine leaves_cons (f := 21) (args := #[.pointer (some ⟨w.heap.size + 1, 0, none⟩), .func (.func 39) #[] #[.pointer (some ⟨w.heap.size, 0, none⟩)]]) (by simp) (by simp [go_sem]) ?_
    refine (told_two39 HZ.out 1).mono ?_
    rintro e u' w'' ⟨rfl, rfl, rfl⟩
    have HZ5 := HZ.out.told 1
    have r0 := HZ5.c0
    have r1 := HZ5.c1
    simp [Leaves, settle, results, Try.results18, go_sem, r0, r1]
    exact ⟨rfl, below_alloc (below_alloc (Below.refl _ _) _) _⟩
end Go.Proofs.Ytjolnjckgoilpaa.Rs
end

section
/-
  The reference's errors, and its Check.
-/
set_option linter.unusedVariables false
set_option linter.unusedSimpArgs false
namespace Go.Proofs.Ytjolnjckgoilpaa.Rs
open Go.RowKit Go.Proofs.YtjolnjckgoilpaaW.PrintWords Go.Proofs.YtjolnjckgoilpaaW.PrintLast Go.Proofs.YtjolnjckgoilpaaW.PrintMore Go.Proofs.Ytjolnjckgoilpaa.PRa Go.Proofs.Ytjolnjckgoilpaa.Gf
theorem there34_no (W : World) (A : Option Addr) (c : Nat) (l : List (List Int)) (n k : Nat) (hA : KR.C W A n l) (hc : n ≤ c) (hl : l.length = n) (hn : n ≤ 100) (hk2 : k ≤ 32) (hno : ¬ (n = k + 2 ∧ sizesB 0 l = true)) :
    Calls Try.prog 34 #[.int .i64 k, .slice A n c] W fun e w' => ∃ v : Value, e = .returned (.tuple #[v, .int .i64 0, .int .i64 1]) ∧ Below W.heap.size W w' := by
  have hz : (decide (l.length = k + 2) && sizesB 0 l) = false := by
    cases e : (decide (l.length = k + 2) && sizesB 0 l)
    · rfl
    · simp only [Bool.and_eq_true, decide_eq_true_eq] at e
      exact absurd ⟨by omega, e.2⟩ hno
  have := flintref6_there.calls 2000 k A c l [] 0 1 W (by rw [hl]; exact hA) (by omega) (by rw [there_ok 2000 k l (by omega) (by omega) (by omega), hz]; rfl)
  rw [hl] at this
  refine this.mono ?_
  rintro e w' ⟨v, rfl, _, hb⟩
  exact ⟨v, rfl, hb⟩
set_option maxHeartbeats 8000000 in
set_option maxRecDepth 100000 in
theorem ref17_no (w : World) (k n : Nat) (A : Option Addr) (c : Nat) (l : List (List Int)) (hA : KR.C w A n l) (hc : n ≤ c) (hk2 : k ≤ 32) (hn : n ≤ 100) (hno : ¬ (n = k + 2 ∧ sizesB 0 l = true)) :
    Calls Try.prog 17 #[.int .i64 k, .slice A n c] w (NoQ w 1) := by
  have HT := Aside0.mk (there34_no w A c l n k hA hc (Kd.C_len hA) hn hk2 hno)
  clear hA hc hn hno
  go_enter Try.func17, Try.ntmps17
  go_wp2_with (go_at_call 34; refine Calls.mono HT.out ?_; rintro e w1 ⟨v, rfl, hb⟩; have HB := Aside0.mk hb; clear hb HT)
  go_ret2
  exact ⟨rfl, HB.out⟩
set_option maxHeartbeats 8000000 in
set_option maxRecDepth 100000 in
theorem check19_no (w : World) (k n : Nat) (A : Option Addr) (c : Nat) (l : List (List Int)) (hA : KR.C w A n l) (hc : n ≤ c) (hk2 : k ≤ 32) (hn : n ≤ 100) (hno : ¬ (n = k + 2 ∧ sizesB 0 l = true)) :
    Calls Try.prog 19 #[.int .i64 k, .slice A n c] w (NoC w) := by
  have HT := Aside0.mk (there34_no w A c l n k hA hc (Kd.C_len hA) hn hk2 hno)
  clear hA hc hn hno
  go_enter Try.func19, Try.ntmps19
  go_wp2_with (go_at_call 34; refine Calls.mono HT.out ?_; rintro e w1 ⟨v, rfl, hb⟩; have HB := Aside0.mk hb; clear hb HT)
  go_ret2
  exact ⟨rfl, HB.out⟩
theorem pres_miss {l : List (List Int)} {n : Nat} (hl : l.length = n) : (presN l n).length + (missL l).length = n := by
  have h1 := miss_sel l n
  unfold missL
  rw [hl]
  unfold presN
  exact h1
theorem there34_len (W : World) (A : Option Addr) (c : Nat) (l : List (List Int)) (n k : Nat) (hA : KR.C W A n l) (hc : n ≤ c) (hn : n = k + 2) (hk2 : k ≤ 32) (hsz : sizesB 0 l = true) (p : Nat) (hp : (presN l n).length = p) :
    Calls Try.prog 34 #[.int .i64 k, .slice A n c] W fun e w' => ∃ A1 c1, e = .returned (.tuple #[.slice A1 p c1, .int .i64 (sizeL 0 l : Nat), .int .i64 0]) ∧ Below W.heap.size W w' := by
  refine (there34 W A c l n k (sizeL 0 l) hA hc (Kd.C_len hA) hn hk2 hsz rfl).mono ?_
  rintro e w' ⟨v, rfl, hR, hb⟩
  obtain ⟨A1, c1, rfl, _⟩ := Kd.R_reads hR
  refine ⟨A1, c1, ?_, hb⟩
  rw [show (presI l n).length = p by unfold presI; rw [List.length_map]; exact hp]
set_option maxHeartbeats 8000000 in
set_option maxRecDepth 100000 in
theorem ref17_lost (w : World) (k n : Nat) (A : Option Addr) (c : Nat) (l : List (List Int)) (hA : KR.C w A n l) (hc : n ≤ c) (hk2 : k ≤ 32) (hn : n = k + 2) (hsz : sizesB 0 l = true) (hlost : 2 < (missL l).length) :
    Calls Try.prog 17 #[.int .i64 k, .slice A n c] w (NoQ w 7) := by
  obtain ⟨p, hp⟩ : ∃ p, (presN l n).length = p := ⟨_, rfl⟩
  have hpm := pres_miss (Kd.C_len hA)
  have HT := Aside0.mk (there34_len w A c l n k hA hc hn hk2 hsz p hp)
  have hpz : decide ((p : Int) < (k : Int)) = true := decide_eq_true (by omega)
  have hpz2 : (p : Int) < (k : Int) := by omega
  generalize sizeL 0 l = m at HT
  clear hA hc hn hsz hpm hp hlost
  go_enter Try.func17, Try.ntmps17
  go_wp2_with (go_at_call 34; refine Calls.mono HT.out ?_; rintro e w1 ⟨A1, c1, rfl, hb⟩; have HB := Aside0.mk hb; clear hb HT)
  go_ret2
  exact ⟨rfl, HB.out⟩
set_option maxHeartbeats 8000000 in
set_option maxRecDepth 100000 in
theorem check19_miss (w : World) (k n : Nat) (A : Option Addr) (c : Nat) (l : List (List Int)) (hA : KR.C w A n l) (hc : n ≤ c) (hk2 : k ≤ 32) (hn : n = k + 2) (hsz : sizesB 0 l = true) (hmiss : 0 < (missL l).length) :
    Calls Try.prog 19 #[.int .i64 k, .slice A n c] w (NoC w) := by
  obtain ⟨p, hp⟩ : ∃ p, (presN l n).length = p := ⟨_, rfl⟩
  have hpm := pres_miss (Kd.C_len hA)
  have HT := Aside0.mk (there34_len w A c l n k hA hc hn hk2 hsz p hp)
  have hpz : decide ((p : Int) < (n : Int)) = true := decide_eq_true (by omega)
  have hpz2 : (p : Int) < (n : Int) := by omega
  generalize sizeL 0 l = m at HT
  clear hA hc hn hsz hpm hp hmiss
  go_enter Try.func19, Try.ntmps19
  go_wp2_with (go_at_call 34; refine Calls.mono HT.out ?_; rintro e w1 ⟨A1, c1, rfl, hb⟩; have HB := Aside0.mk hb; clear hb HT)
  go_ret2
  exact ⟨rfl, HB.out⟩
theorem str_list (l : List Int) : (strOfNums l).toList = l.map fun n => UInt8.ofNat n.toNat := by
  rw [ByteArray.toList_eq, strOfNums_data]
theorem map_inj {f : Int → UInt8} : ∀ {x y : List Int}, (∀ a, a ∈ x → ∀ b, b ∈ y → f a = f b → a = b) → x.map f = y.map f → x = y
  | [], [], _, _ => rfl
  | [], _ :: _, _, h => by simp at h
  | _ :: _, [], _, h => by simp at h
  | a :: x, b :: y, hi, h => by
    simp only [List.map_cons, List.cons.injEq] at h
    rw [hi a List.mem_cons_self b List.mem_cons_self h.1, map_inj (fun c hc d hd => hi c (List.mem_cons_of_mem _ hc) d (List.mem_cons_of_mem _ hd)) h.2]
theorem str_inj {x y : List Int} (hx : x.all (fun a => decide (0 ≤ a) && decide (a < 256)) = true) (hy : y.all (fun a => decide (0 ≤ a) && decide (a < 256)) = true) : (strOfNums x).toList = (strOfNums y).toList ↔ x = y := by
  refine ⟨fun h => ?_, fun h => by rw [h]⟩
  rw [str_list, str_list] at h
  refine map_inj (fun a ha b hb e => ?_) h
  simp only [List.all_eq_true, Bool.and_eq_true, decide_eq_true_eq] at hx hy
  have h1 := hx a ha
  have h2 := hy b hb
  have h3 := congrArg UInt8.toNat e
  simp only [UInt8.toNat_ofNat'] at h3
  omega
theorem ok_row {l : List (List Int)} (h : okB l = true) (i : Nat) : (row l i).all (fun a => decide (0 ≤ a) && decide (a < 256)) = true := by
  unfold okB at h
  rw [List.all_eq_true] at h
  by_cases hi : i < l.length
  · have e : row l i = l[i] := by simp [row, List.getD, hi]
    rw [e]
    exact h _ (List.getElem_mem hi)
  · have e : row l i = [] := by simp [row, List.getD, Nat.not_lt.mp hi]
    rw [e]
    rfl
theorem drop_two {l : List (List Int)} {n k : Nat} (hl : l.length = n) (hn : n = k + 2) : l.drop k = [row l k, row l (k + 1)] := by
  rw [drop_at (l := l) (i := k) (by omega), drop_at (l := l) (i := k + 1) (by omega), List.drop_of_length_le (by omega)]
theorem chk_strs {l : List (List Int)} {n k m : Nat} (hl : l.length = n) (hn : n = k + 2) (ok : okB l = true) :
    chkB l k m = (decide ((strOfNums (rowL m (tcol (rho 0) (l.take k) k))).toList = (strOfNums (row l k)).toList) && decide ((strOfNums (rowL m (tcol (rho 1) (l.take k) k))).toList = (strOfNums (row l (k + 1))).toList)) := by
  have hr : ∀ r, (rowL m (tcol (rho r) (l.take k) k)).all (fun a => decide (0 ≤ a) && decide (a < 256)) = true := fun r => rowL_ok fun x => tcol_lt (fun i => GfM.g_lt _) k x
  unfold chkB
  rw [drop_two hl hn, ← Bool.decide_and]
  refine decide_eq_decide.mpr ?_
  rw [str_inj (hr 0) (ok_row ok k), str_inj (hr 1) (ok_row ok (k + 1)), rowL_congr (fun x _ => tcol_take (rho 0) l k x), rowL_congr (fun x _ => tcol_take (rho 1) l k x)]
  simp
set_option maxHeartbeats 8000000 in
set_option maxRecDepth 100000 in
theorem check19_ok (w : World) (k n m : Nat) (A : Option Addr) (c : Nat) (l : List (List Int)) (hA : KR.C w A n l) (hc : n ≤ c) (hk1 : 1 ≤ k) (hk2 : k ≤ 32) (hn : n = k + 2) (hm0 : 0 < m) (hm9 : m ≤ 1000000) (ok : okB l = true) (hm : ∀ i, i < n → (row l i).length = m) (hsz : sizesB 0 l = true) (hmiss : missL l = []) :
    Calls Try.prog 19 #[.int .i64 k, .slice A n c] w (CheckQ w (chkB l k m)) := by
  have hl : l.length = n := Kd.C_len hA
  have hpm := pres_miss hl
  rw [hmiss] at hpm
  have HT := Aside0.mk (there34_len w A c l n k hA hc hn hk2 hsz n (by simpa using hpm))
  rw [chk_strs hl hn ok]
  have hlt : (l.take k).length = k := by rw [List.length_take]; omega
  have HP := Aside0.mk (fun (W : World) (hW : Below w.heap.size w W) => (by
    have h1 : KR.C w A (l.take k).length (l.take k) := Kd.C_take (k := KR) (m := k) (by rw [hl]; exact hA) (by omega)
    have := flintref6_parity.calls 100000000 A c (l.take k) _ W (Kd.C_below h1 hW) (by rw [hlt]; omega) (parity_ok 100000000 (l.take k) k m hlt (okB_take ok k) (fun i hi => by rw [row_take hi]; exact hm i (by omega)) hk1 (by omega) hm9 (by have : m * (k + 30) ≤ 1000000 * 62 := Nat.mul_le_mul hm9 (by omega); omega))
    rw [hlt] at this
    exact this : Calls Try.prog 33 #[.slice A k c] W fun e w' => ∃ v0_ : Value, e = .returned v0_ ∧ Kd.N (Kd.slice 5 (Kd.int .u8)) 25 w' W.heap.size (fun k_ => (W.heap.size ≤ k_)) v0_ [rowL m (tcol (rho 0) (l.take k) k), rowL m (tcol (rho 1) (l.take k) k)] ∧ Below W.heap.size W w'))
  generalize hr0 : rowL m (tcol (rho 0) (l.take k) k) = r0 at HP ⊢
  generalize hr1 : rowL m (tcol (rho 1) (l.take k) k) = r1 at HP ⊢
  have hl0 : r0.length = m := by rw [← hr0, rowL_length]
  have hl1 : r1.length = m := by rw [← hr1, rowL_length]
  obtain ⟨ad, B0, d0, eB, hx0, _, hi0⟩ := rows_at hA (i := k) (by omega)
  subst eB
  obtain ⟨ad', B1, d1, eB, hx1, _, hi1⟩ := rows_at hA (i := k + 1) (by omega)
  obtain rfl : ad = ad' := by injection eB
  rw [hm k (by omega)] at hx0 hi0
  rw [hm (k + 1) (by omega)] at hx1 hi1
  generalize row l k = s0 at hi0 ⊢
  generalize row l (k + 1) = s1 at hi1 ⊢
  generalize sizeL 0 l = z at HT
  have HX0 := Aside0.mk hx0
  have HX1 := Aside0.mk hx1
  have HI0 := Aside0.mk hi0
  have HI1 := Aside0.mk hi1
  have HL0 := Aside0.mk hl0
  have HL1 := Aside0.mk hl1
  have hk0 : (0 : Int) ≤ (k : Int) := by omega
  have hkc : (k : Int) ≤ (c : Int) := by omega
  have hkn : (k : Int) ≤ (n : Int) := by omega
  have hnc : (n : Int) ≤ (c : Int) := by omega
  have hck : ¬ c = k := by omega
  have hkn1 : (k : Int) < (n : Int) := by omega
  obtain ⟨k1, hk1e⟩ : ∃ k1, k + 1 = k1 := ⟨_, rfl⟩
  rw [hk1e] at HX1
  have hw1 : IntKind.i64.wrap ((k : Int) + 1) = (k1 : Int) := by rw [i64_w]; unfold wrap64; omega
  have hkn2 : (k1 : Int) < (n : Int) := by omega
  have hk01 : (0 : Int) ≤ (k1 : Int) := by omega
  clear hk1e
  clear hA hc hm hsz hmiss hl hpm hlt eB hx0 hx1 hi0 hi1 hl0 hl1 hr0 hr1 ok hn hm0 hm9
  go_enter Try.func19, Try.ntmps19
  go_wp2_with (first
    | (go_at_call 34; refine Calls.mono HT.out ?_; rintro e w1 ⟨A1, c1, rfl, hb⟩; have HB1 := Aside0.mk hb; clear hb HT)
    | (go_at_call 33; refine Calls.mono (HP.out _ HB1.out) ?_; rintro e w2 ⟨v, rfl, hN, hb⟩
       obtain ⟨g, cg, ev, _⟩ := Kd.N_form hN (by simp)
       subst ev
       have hR := (Kd.N_reads' hN).2.2
       have HB2 := Aside0.mk (below_then HB1.out HB1.out.size hb)
       obtain ⟨a0, C0, e0, eA0, y0, _, j0⟩ := rows_at hR (i := 0) (by simp)
       obtain ⟨a1, C1, e1, eA1, y1, _, j1⟩ := rows_at hR (i := 1) (by simp)
       obtain rfl : ⟨g, 0, none⟩ = a0 := by injection eA0
       obtain rfl : ⟨g, 0, none⟩ = a1 := by injection eA1
       rw [Addr.add_mid, Nat.zero_add] at y0 y1
       rw [show row [r0, r1] 0 = r0 from rfl, HL0.out] at y0 j0
       rw [show row [r0, r1] 1 = r1 from rfl, HL1.out] at y1 j1
       have x0 := pw_cell_below HB2.out HX0.out
       have x1 := pw_cell_below HB2.out HX1.out
       have q0 := fun n_ : Nat => Kd.C_string (P := Try.prog) (c := e0) Try.underlying25 Try.underlying5 Try.underlying9 (Kd.C_drewN j0 n_)
       have q1 := fun n_ : Nat => Kd.C_string (P := Try.prog) (c := e1) Try.underlying25 Try.underlying5 Try.underlying9 (Kd.C_drewN j1 n_)
       have q2 := fun n_ : Nat => Kd.C_string (P := Try.prog) (c := d0) Try.underlying25 Try.underlying5 Try.underlying9 (Kd.C_drewN (Kd.C_below HI0.out HB2.out) n_)
       have q3 := fun n_ : Nat => Kd.C_string (P := Try.prog) (c := d1) Try.underlying25 Try.underlying5 Try.underlying9 (Kd.C_drewN (Kd.C_below HI1.out HB2.out) n_)
       clear hN hb hR eA0 eA1 j0 j1))
  by_cases c0 : (strOfNums r0).toList = (strOfNums s0).toList
  · have b0 : ((strOfNums r0).toList == (strOfNums s0).toList) = true := beq_iff_eq.mpr c0
    have b0d : decide ((strOfNums r0).toList = (strOfNums s0).toList) = true := decide_eq_true c0
    have C0 := Aside0.mk c0
    clear c0
    obtain ⟨b1, hb1, hb1d⟩ : ∃ b1, ((strOfNums r1).toList == (strOfNums s1).toList) = b1 ∧ decide ((strOfNums r1).toList = (strOfNums s1).toList) = b1 := ⟨_, rfl, by by_cases h : (strOfNums r1).toList = (strOfNums s1).toList <;> simp [h]⟩
    have HD1 := Aside0.mk hb1d
    clear hb1d
    go_quiet (fail)
    go_wp2_with fail
    go_ret2
    exact ⟨by rw [b0d, HD1.out]; rfl, pw_below_drewN HB2.out nq⟩
  · have b0 : ((strOfNums r0).toList == (strOfNums s0).toList) = false := beq_eq_false_iff_ne.mpr c0
    have b0d : decide ((strOfNums r0).toList = (strOfNums s0).toList) = false := decide_eq_false c0
    have C0 := Aside0.mk c0
    clear c0
    go_quiet (fail)
    go_wp2_with fail
    go_ret2
    exact ⟨by rw [b0d]; rfl, pw_below_drewN HB2.out nq⟩
end Go.Proofs.Ytjolnjckgoilpaa.Rs
end

section
/-
  The code and the reference side by side: Parity, Rebuild, Check tell the same.
-/
set_option linter.unusedVariables false
set_option linter.unusedSimpArgs false
namespace Go.Proofs.Ytjolnjckgoilpaa.Rs
open Go.RowKit Go.Proofs.YtjolnjckgoilpaaW.PrintWords Go.Proofs.YtjolnjckgoilpaaW.PrintLast Go.Proofs.YtjolnjckgoilpaaW.PrintMore Go.Proofs.Ytjolnjckgoilpaa.PRa Go.Proofs.Ytjolnjckgoilpaa.Gf
/-- Rows and a number are told. -/
def RowsQ (L : List (List Int)) (x : Int) (w : World) (e : Ending) (w' : World) : Prop := ∃ A c, e = .returned (.tuple #[.slice A L.length c, .int .i64 x]) ∧ KR.C w' A L.length L ∧ L.length ≤ c ∧ Below w.heap.size w w'
theorem NoQ.rows {w w' : World} {x : Int} {e : Ending} (h : NoQ w x e w') : RowsQ [] x w e w' := ⟨none, 0, h.1, Kd.C_nil _ _, Nat.le_refl _, h.2⟩
theorem sizeL_all : ∀ (l : List (List Int)) (s : Nat), sizesB s l = true → (∀ x ∈ l, x.length = 0 ∨ x.length = sizeL s l) ∧ (s = 0 ∨ s = sizeL s l) := by
  intro l
  induction l with
  | nil => intro s _; exact ⟨fun x hx => (List.not_mem_nil hx).elim, .inr rfl⟩
  | cons x l ih =>
    intro s h
    by_cases h0 : x.length = 0
    · rw [(sizes_skip h0).1] at h
      rw [(sizes_skip h0).2]
      obtain ⟨h1, h2⟩ := ih s h
      refine ⟨fun y hy => ?_, h2⟩
      rcases List.mem_cons.mp hy with e | e
      · subst e; exact .inl h0
      · exact h1 y e
    · by_cases h1 : s = 0 ∨ s = x.length
      · rw [(sizes_take h1).1] at h
        rw [(sizes_take h1).2]
        obtain ⟨h2, h3⟩ := ih _ h
        have h4 : x.length = sizeL x.length l := h3.resolve_left h0
        refine ⟨fun y hy => ?_, ?_⟩
        · rcases List.mem_cons.mp hy with e | e
          · subst e; exact .inr h4
          · exact h2 y e
        · rcases h1 with e | e
          · exact .inl e
          · exact .inr (e.trans h4)
      · rw [sizes_bad h0 (fun e => h1 (.inl e)) (fun e => h1 (.inr e.symm))] at h
        cases h
theorem row_mem {l : List (List Int)} {i : Nat} (h : i < l.length) : row l i ∈ l := by
  have e : row l i = l[i] := by simp [row, List.getD, h]
  rw [e]
  exact List.getElem_mem h
theorem parity_both (w : World) (k n : Nat) (hk1 : 1 ≤ k) (hk2 : k ≤ 32) (A : Option Addr) (c : Nat) (a : List (List Int)) (hA : KR.C w A n a) (hc : n ≤ c) (hn : n ≤ 40) (ok : okB a = true) (hm9 : ∀ i, (row a i).length ≤ 4000) :
    ∃ L x, L.length ≤ 40 ∧ (∀ W g, Below w.heap.size w W → CodeAt W g k → Calls Try.prog 11 #[.pointer (some ⟨g, 0, none⟩), .slice A n c] W (RowsQ L x W)) ∧ ∀ W, Below w.heap.size w W → Calls Try.prog 15 #[.int .i64 k, .slice A n c] W (RowsQ L x W) := by
  have hl : a.length = n := Kd.C_len hA
  have h0 := hm9 0
  have hp := Parity_ok 100000000 a k ok hk1 (by omega) (by omega) (by have : (row a 0).length * (k + 30) ≤ 4000 * 62 := Nat.mul_le_mul h0 (by omega); omega)
  by_cases hb : parB k a = true
  · rw [if_pos hb] at hp
    simp only [parB, Bool.and_eq_true, decide_eq_true_eq, List.all_eq_true, List.mem_range] at hb
    obtain ⟨⟨h1, h2⟩, h3⟩ := hb
    refine ⟨[rowL (row a 0).length (tcol (rho 0) a k), rowL (row a 0).length (tcol (rho 1) a k)], 0, ?_, fun W g hW hg => ?_, fun W hW => ?_⟩
    · show 2 ≤ 40; omega
    · obtain rfl : n = k := by omega
      refine (parity11_ok W g n hg hk1 hk2 A c a (Kd.C_below hA hW) h1 hc _ (by omega) ok h3 (sizes_rows fun i hi => h3 i (by omega)) (miss_rows (by omega) fun i hi => h3 i (by omega))).mono ?_
      rintro e w' ⟨pb, p0, p1, rfl, hp⟩
      exact ⟨_, 2, rfl, pair_C hp (by omega), Nat.le_refl _, hp.below⟩
    · have := flintref6_Parity.calls 100000000 (k : Int) A c a _ 0 W (by rw [hl]; exact Kd.C_below hA hW) (by omega) hp
      rw [hl] at this
      refine this.mono ?_
      rintro e w' ⟨v, rfl, hN, hb⟩
      obtain ⟨A', c', rfl, h4, h5⟩ := Kd.N_reads hN
      exact ⟨A', c', rfl, h5, h4, hb⟩
  · rw [if_neg hb] at hp
    refine ⟨[], 1, Nat.zero_le _, fun W g hW hg => ?_, fun W hW => ?_⟩
    · have := parity11_no W g k hg A c a (by rw [hl]; exact Kd.C_below hA hW) (by omega) (by omega) (fun h => hb (by
        have h1 : a.length = k := by have := h.1.1; omega
        simp only [parB, Bool.and_eq_true, decide_eq_true_eq, List.all_eq_true, List.mem_range]
        refine ⟨⟨h1, ?_⟩, fun q hq => sizes_conv h.1.2 h.2 q (by omega)⟩
        exact all_there (l := a) rfl (by rw [h.2]; rfl) 0 (by omega)))
      rw [hl] at this
      exact this.mono fun e w' h => h.rows
    · have := flintref6_Parity.calls 100000000 (k : Int) A c a [] 1 W (by rw [hl]; exact Kd.C_below hA hW) (by omega) hp
      rw [hl] at this
      refine this.mono ?_
      rintro e w' ⟨v, rfl, hN, hb⟩
      obtain ⟨A', c', rfl, h4, h5⟩ := Kd.N_reads hN
      exact ⟨A', c', rfl, h5, h4, hb⟩
theorem reb_both (w : World) (k n : Nat) (hk1 : 1 ≤ k) (hk2 : k ≤ 32) (A : Option Addr) (c : Nat) (a : List (List Int)) (hA : KR.C w A n a) (hc : n ≤ c) (hn : n ≤ 40) (ok : okB a = true) (hm9 : ∀ i, (row a i).length ≤ 4000) :
    ∃ L x, L.length ≤ 40 ∧ (∀ W g, Below w.heap.size w W → CodeAt W g k → Calls Try.prog 12 #[.pointer (some ⟨g, 0, none⟩), .slice A n c] W (RowsQ L x W)) ∧ ∀ W, Below w.heap.size w W → Calls Try.prog 17 #[.int .i64 k, .slice A n c] W (RowsQ L x W) := by
  have hl : a.length = n := Kd.C_len hA
  by_cases ha : n = k + 2 ∧ sizesB 0 a = true
  · by_cases hlost : (missL a).length ≤ 2
    · obtain ⟨y, _, _, hy3, hy4, _⟩ := pres_at (pres_len hl ha.1 hlost).1 (show 0 < k by omega)
      have hsa := (sizeL_all a 0 ha.2).1
      have hm : ∀ i, i < n → pres a i → (row a i).length = sizeL 0 a := fun i hi hp => (hsa _ (row_mem (by omega))).resolve_left hp
      have hm0 : 0 < sizeL 0 a := by rw [← hm y hy3 hy4]; unfold pres at hy4; omega
      have hmb : sizeL 0 a ≤ 4000 := by rw [← hm y hy3 hy4]; exact hm9 y
      obtain ⟨s, g1, g2, g3, g4⟩ := reb_plain hl ha.1 hk1 hk2 hlost
      refine ⟨outL s.2 a n k (sizeL 0 a), 0, by rw [outL_len]; exact hn, fun W g hW hg => ?_, fun W hW => ?_⟩
      · refine (rebuild12 W g k hg hk1 hk2 A c a n (Kd.C_below hA hW) ha.1 hc (sizeL 0 a) hm0 (by omega) ok hm ha.2 hlost _ g3 (fun i j => sx k fun q => GfM.M (allN k i q) (s.2 q j)) (fun i q => sx_lt _ _ fun r _ => GfM.M_lt _ _ (allN_lt k i r)) (by rw [matrix_length]) (fun i hi _ => g4 i hi)).mono ?_
        rintro e w' ⟨ob, cap, hs, rfl, h1, h2, h3⟩
        have h4 := KH_len2 h1 (by rw [h2.len])
        refine ⟨some ⟨ob, 0, none⟩, cap, by rw [outL_len], ?_, by rw [outL_len]; exact h4.2, h3⟩
        rw [outL_len]
        exact KR_of_KH h4.1 (h2.toRows outL_len fun i hi => (out_reb hl ha.1 hlost g1 ok hm0 hi).symm)
      · refine (ref17 W k n (sizeL 0 a) A c a (Kd.C_below hA hW) hc hk1 hk2 ha.1 hm0 (by omega) ok hm ha.2 hlost s.2 g1 g3).mono ?_
        rintro e w' ⟨ob, cap, rfl, h1, h2, h3⟩
        exact ⟨some ⟨ob, 0, none⟩, cap, by rw [outL_len], by rw [outL_len]; exact h1, by rw [outL_len]; exact h2, h3⟩
    · refine ⟨[], 7, Nat.zero_le _, fun W g hW hg => ?_, fun W hW => ?_⟩
      · have := rebuild12_lost W g k hg hk2 A c a (by rw [hl]; exact Kd.C_below hA hW) (by omega) (by omega) ⟨by omega, ha.2⟩ (by omega)
        rw [hl] at this
        exact this.mono fun e w' h => h.rows
      · exact (ref17_lost W k n A c a (Kd.C_below hA hW) hc hk2 ha.1 ha.2 (by omega)).mono fun e w' h => h.rows
  · refine ⟨[], 1, Nat.zero_le _, fun W g hW hg => ?_, fun W hW => ?_⟩
    · have := rebuild12_no W g k hg hk2 A c a (by rw [hl]; exact Kd.C_below hA hW) (by omega) (by rw [hl]; exact ha)
      rw [hl] at this
      exact this.mono fun e w' h => h.rows
    · exact (ref17_no W k n A c a (Kd.C_below hA hW) hc hk2 (by omega) ha).mono fun e w' h => h.rows
/-- A bool and a number are told. -/
def BoolQ (b : Bool) (x : Int) (w : World) (e : Ending) (w' : World) : Prop := e = .returned (.tuple #[.bool b, .int .i64 x]) ∧ Below w.heap.size w w'
theorem check_both (w : World) (k n : Nat) (hk1 : 1 ≤ k) (hk2 : k ≤ 32) (A : Option Addr) (c : Nat) (a : List (List Int)) (hA : KR.C w A n a) (hc : n ≤ c) (hn : n ≤ 40) (ok : okB a = true) (hm9 : ∀ i, (row a i).length ≤ 4000) :
    ∃ b x, (∀ W g, Below w.heap.size w W → CodeAt W g k → Calls Try.prog 18 #[.pointer (some ⟨g, 0, none⟩), .slice A n c] W (BoolQ b x W)) ∧ ∀ W, Below w.heap.size w W → Calls Try.prog 19 #[.int .i64 k, .slice A n c] W (BoolQ b x W) := by
  have hl : a.length = n := Kd.C_len hA
  by_cases ha : (n = k + 2 ∧ sizesB 0 a = true) ∧ missL a = []
  · have hmm : ∀ i, i < n → (row a i).length = (row a 0).length := fun i hi => sizes_conv ha.1.2 ha.2 i (by omega)
    have h0 : 0 < (row a 0).length := by
      have := all_there (l := a) rfl (by rw [ha.2]; rfl) 0 (by omega)
      unfold pres at this
      omega
    have h9 := hm9 0
    refine ⟨chkB a k (row a 0).length, 0, fun W g hW hg => ?_, fun W hW => ?_⟩
    · exact check18_ok W g k hg hk1 hk2 A c a n (Kd.C_below hA hW) ha.1.1 hc (row a 0).length (by omega) ok hmm ha.1.2 ha.2
    · exact check19_ok W k n (row a 0).length A c a (Kd.C_below hA hW) hc hk1 hk2 ha.1.1 h0 (by omega) ok hmm ha.1.2 ha.2
  · refine ⟨false, 1, fun W g hW hg => ?_, fun W hW => ?_⟩
    · have := check18_no W g k hg hk2 A c a (by rw [hl]; exact Kd.C_below hA hW) (by omega) (by omega) (by rw [hl]; exact ha)
      rw [hl] at this
      exact this
    · by_cases hb : n = k + 2 ∧ sizesB 0 a = true
      · refine check19_miss W k n A c a (Kd.C_below hA hW) hc hk2 hb.1 hb.2 ?_
        rcases Nat.eq_zero_or_pos (missL a).length with h | h
        · exact absurd ⟨hb, List.eq_nil_of_length_eq_zero h⟩ ha
        · exact h
      · exact check19_no W k n A c a (Kd.C_below hA hW) hc hk2 (by omega) hb
end Go.Proofs.Ytjolnjckgoilpaa.Rs
end

section
/-
  The law RsCodes: its walk, and as its frame wants it.
-/
set_option linter.unusedVariables false
set_option linter.unusedSimpArgs false
namespace Go.Proofs.Ytjolnjckgoilpaa.Rs
open Go.RowKit Go.Proofs.YtjolnjckgoilpaaW.PrintWords Go.Proofs.YtjolnjckgoilpaaW.PrintLast Go.Proofs.YtjolnjckgoilpaaW.PrintMore Go.Proofs.Ytjolnjckgoilpaa.PRa Go.Proofs.Ytjolnjckgoilpaa.Gf
set_option maxHeartbeats 32000000 in
set_option maxRecDepth 100000 in
theorem codes6 (w : World) (a0 : Int) (A : Option Addr) (ca : Nat) (a : List (List Int)) (hA : KR.C w A a.length a) (hca : a.length ≤ ca)
    (oka : okB a = true) (la : a.length ≤ 100000000) (sa : (a.map List.length).sum ≤ 100000000) :
    Calls Try.prog 6 #[.int .i64 a0, .slice A a.length ca] w fun e w' => e = .returned (.bool true) ∧ Below w.heap.size w w' := by
  have HK := Aside0.mk (fun (W : World) => known8 W)
  have HFa := Aside0.mk (fun (W : World) (hW : Below w.heap.size w W) => few9 W A ca a (Kd.C_below hA hW) hca la sa)
  have HN := Aside0.mk (fun (W : World) => new10 W a0)
  cases h4 : fewB a
  · rw [h4] at HFa
    generalize a.length = n at *
    clear hA hca oka la sa h4
    go_enter Try.func6, Try.ntmps6
    go_wp2_with (first
      | (go_at_call 8; refine Calls.mono (HK.out _) ?_; rintro e w1 ⟨rfl, hb⟩; have HB := Aside0.mk hb; clear hb)
      | (go_at_call 9; refine Calls.mono (HFa.out _ HB.out) ?_; rintro e w2 ⟨rfl, hd⟩; replace HB := Aside0.mk (below_then HB.out HB.out.size hd.below); clear hd))
    go_ret
    exact ⟨rfl, HB.out⟩
  · rw [h4] at HFa
    have hrow := few_row h4
    have hn40 : a.length ≤ 40 := by
      simp only [fewB, Bool.and_eq_true, decide_eq_true_eq] at h4
      exact h4.1
    by_cases hk : 1 ≤ a0 ∧ a0 ≤ 32
    · obtain ⟨k, rfl⟩ : ∃ k : Nat, a0 = k := ⟨a0.toNat, by omega⟩
      have hk1 : 1 ≤ k := by omega
      have hk2 : k ≤ 32 := by omega
      obtain ⟨n, hn⟩ : ∃ n, a.length = n := ⟨_, rfl⟩
      rw [hn] at hA hca HFa hn40 ⊢
      obtain ⟨L1, x1, hl1, hp1, hp2⟩ := parity_both w k n hk1 hk2 A ca a hA hca hn40 oka hrow
      obtain ⟨L2, x2, hl2, hr1, hr2⟩ := reb_both w k n hk1 hk2 A ca a hA hca hn40 oka hrow
      obtain ⟨b3, x3, hc1, hc2⟩ := check_both w k n hk1 hk2 A ca a hA hca hn40 oka hrow
      have HP1 := Aside0.mk hp1
      have HP2 := Aside0.mk hp2
      have HR1 := Aside0.mk hr1
      have HR2 := Aside0.mk hr2
      have HC1 := Aside0.mk hc1
      have HC2 := Aside0.mk hc2
      have HL1 := Aside0.mk hl1
      have HL2 := Aside0.mk hl2
      have HKN := Aside0.mk hk
      have HRN := Aside0.mk (fun (W : World) => flintref6_New.calls (k : Int) 0 W (by unfold flintref6_New.f; rw [if_neg (by omega)]; first | rfl | (rw [if_neg (by omega)]) | simp; omega))
      clear hA hca oka la sa h4 hrow hn40 hp1 hp2 hr1 hr2 hc1 hc2 hl1 hl2 hk hn
      go_enter Try.func6, Try.ntmps6
      go_wp2_with (first
        | (go_at_call 8; refine Calls.mono (HK.out _) ?_; rintro e w1 ⟨rfl, hb⟩; have HB := Aside0.mk hb; clear hb HK)
        | (go_at_call 9; refine Calls.mono (HFa.out _ HB.out) ?_; rintro e w2 ⟨rfl, hd⟩; replace HB := Aside0.mk (below_then HB.out HB.out.size hd.below); clear hd HFa)
        | (go_at_call 10; refine Calls.mono (HN.out _) ?_; rintro e w3 ⟨hb, h⟩; rw [if_pos HKN.out] at h; obtain ⟨gc, rfl, _, hc⟩ := h; rw [Int.toNat_natCast] at hc; have HC := Aside0.mk hc; replace HB := Aside0.mk (below_then HB.out HB.out.size hb); clear hb hc HN)
        | (go_at_call 14; refine Calls.mono (HRN.out _) ?_; rintro e w4 ⟨rfl, hd⟩; replace HB := Aside0.mk (below_then HB.out HB.out.size hd.below); replace HC := Aside0.mk (HC.out.below hd.below); clear hd HRN)
        | (go_at_call 11; refine Calls.mono (HP1.out _ gc HB.out HC.out) ?_; rintro e w5 ⟨A1, c1, rfl, hk1, hle, hb⟩; replace HB := Aside0.mk (below_then HB.out HB.out.size hb); replace HC := Aside0.mk (HC.out.below hb); have HA1 := Aside0.mk hk1; have HLE1 := Aside0.mk hle; clear hb hk1 hle HP1)
        | (go_at_call 15; refine Calls.mono (HP2.out _ HB.out) ?_; rintro e w6 ⟨A2, c2, rfl, hk1, hle, hb⟩; replace HB := Aside0.mk (below_then HB.out HB.out.size hb); replace HC := Aside0.mk (HC.out.below hb); have HS1 := Aside0.mk (same13 w6 L1.length A1 A2 c1 c2 L1 (Kd.C_below HA1.out hb) hk1 HLE1.out hle (by have := HL1.out; omega)); clear hb hk1 hle HP2 HA1 HLE1)
        | (go_at_call 16; refine Calls.mono (k16 _ gc k HC.out) ?_; rintro e w7 ⟨rfl, rfl⟩)
        | (go_at_call 13; refine Calls.mono HS1.out ?_; rintro e w8 ⟨rfl, hb⟩; replace HB := Aside0.mk (below_then HB.out HB.out.size hb); replace HC := Aside0.mk (HC.out.below hb); clear hb HS1)
        | (go_at_call 12; refine Calls.mono (HR1.out _ gc HB.out HC.out) ?_; rintro e w9 ⟨A3, c3, rfl, hk1, hle, hb⟩; replace HB := Aside0.mk (below_then HB.out HB.out.size hb); replace HC := Aside0.mk (HC.out.below hb); have HA3 := Aside0.mk hk1; have HLE3 := Aside0.mk hle; clear hb hk1 hle HR1)
        | (go_at_call 17; refine Calls.mono (HR2.out _ HB.out) ?_; rintro e w10 ⟨A4, c4, rfl, hk1, hle, hb⟩; replace HB := Aside0.mk (below_then HB.out HB.out.size hb); replace HC := Aside0.mk (HC.out.below hb); have HS2 := Aside0.mk (same13 w10 L2.length A3 A4 c3 c4 L2 (Kd.C_below HA3.out hb) hk1 HLE3.out hle (by have := HL2.out; omega)); clear hb hk1 hle HR2 HA3 HLE3)
        | (go_at_call 13; refine Calls.mono HS2.out ?_; rintro e w11 ⟨rfl, hb⟩; replace HB := Aside0.mk (below_then HB.out HB.out.size hb); replace HC := Aside0.mk (HC.out.below hb); clear hb HS2)
        | (go_at_call 18; refine Calls.mono (HC1.out _ gc HB.out HC.out) ?_; rintro e w12 ⟨rfl, hb⟩; replace HB := Aside0.mk (below_then HB.out HB.out.size hb); clear hb HC1)
        | (go_at_call 19; refine Calls.mono (HC2.out _ HB.out) ?_; rintro e w13 ⟨rfl, hb⟩; replace HB := Aside0.mk (below_then HB.out HB.out.size hb); clear hb HC2))
      go_ret
      exact ⟨by simp, HB.out⟩
    · have HKN := Aside0.mk hk
      have HRN := Aside0.mk (fun (W : World) => flintref6_New.calls a0 1 W (by unfold flintref6_New.f; by_cases h1 : a0 < 1; rw [if_pos h1]; rw [if_neg h1]; first | rfl | (rw [if_pos (by omega)]) | (simp; omega)))
      generalize a.length = n at *
      clear hA hca oka la sa h4 hrow hn40 hk
      go_enter Try.func6, Try.ntmps6
      go_wp2_with (first
        | (go_at_call 8; refine Calls.mono (HK.out _) ?_; rintro e w1 ⟨rfl, hb⟩; have HB := Aside0.mk hb; clear hb HK)
        | (go_at_call 9; refine Calls.mono (HFa.out _ HB.out) ?_; rintro e w2 ⟨rfl, hd⟩; replace HB := Aside0.mk (below_then HB.out HB.out.size hd.below); clear hd HFa)
        | (go_at_call 10; refine Calls.mono (HN.out _) ?_; rintro e w3 ⟨hb, h⟩; rw [if_neg HKN.out] at h; subst h; replace HB := Aside0.mk (below_then HB.out HB.out.size hb); clear hb HN)
        | (go_at_call 14; refine Calls.mono (HRN.out _) ?_; rintro e w4 ⟨rfl, hd⟩; replace HB := Aside0.mk (below_then HB.out HB.out.size hd.below); clear hd HRN))
      go_ret
      exact ⟨rfl, HB.out⟩
end Go.Proofs.Ytjolnjckgoilpaa.Rs
end

section
/-
  The law RsCodes, as its frame wants it.
-/
set_option linter.unusedVariables false
namespace Go.Proofs.Ytjolnjckgoilpaa.Rs
open Go.RowKit Go.Proofs.YtjolnjckgoilpaaW.PrintWords Go.Proofs.YtjolnjckgoilpaaW.PrintLast Go.Proofs.YtjolnjckgoilpaaW.PrintMore Go.Proofs.Ytjolnjckgoilpaa.PRa Go.Proofs.Ytjolnjckgoilpaa.Gf
theorem len_sum (l : List (List Int)) : (l.map fun r => r.length + 1).sum = (l.map List.length).sum + l.length := by
  induction l with
  | nil => simp
  | cons a l ih => simp only [List.map_cons, List.sum_cons, List.length_cons]; omega
/-- The law, as its frame wants it. -/
theorem rsCodes_calls (a0 : Int) (A1 : Option Addr) (c1 : Nat) (l1 : List (List Int)) (r : Bool) (w : World) (hr1 : Kd.C (Kd.slice 5 (Kd.int .u8)) w A1 l1.length l1) (hc1 : l1.length ≤ c1) (h : okB l1 = true ∧ (l1.map fun r => r.length + 1).sum ≤ 1048576 ∧ r = true) :
    Calls Try.prog 6 #[.int .i64 a0, .slice A1 l1.length c1] w fun e w' => e = .returned (.bool r) ∧ Below w.heap.size w w' := by
  obtain ⟨ok1, h0, rfl⟩ := h
  have q0 := len_sum l1
  exact codes6 w a0 A1 c1 l1 hr1 hc1 ok1 (by omega) (by omega)
end Go.Proofs.Ytjolnjckgoilpaa.Rs
namespace Go.Proofs.Ytjolnjckgoilpaa.Pure
open Go.Proofs.Ytjolnjckgoilpaa.Gf Go.RowKit
theorem wf_byte {x : Int} (h : (Lit.int .u8 x).wf = true) : 0 ≤ x ∧ x < 256 := by
  obtain ⟨n, hn, rfl⟩ := GaFacts.byte h
  omega
theorem okB_of {l : List (List Int)} (h : ∀ r ∈ l, ∀ x ∈ r, (Lit.int .u8 x).wf = true) : okB l = true := by
  unfold okB
  simp only [List.all_eq_true]
  intro r hr x hx
  have := wf_byte (h r hr x hx)
  simp [this]
theorem RsCodes (a0 : Int) (l1 : List (List Int)) (w0 : (Lit.int .i64 a0).wf = true) (w1 : ∀ r ∈ l1, ∀ x ∈ r, (Lit.int .u8 x).wf = true) (hb : (l1.map fun r => r.length + 1).sum ≤ 1048576) : okB l1 = true ∧ (l1.map fun r => r.length + 1).sum ≤ 1048576 ∧ true = true := ⟨okB_of w1, hb, rfl⟩
end Go.Proofs.Ytjolnjckgoilpaa.Pure
end
