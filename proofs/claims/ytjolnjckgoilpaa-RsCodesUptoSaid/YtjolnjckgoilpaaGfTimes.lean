/-
  The walk of gf.Matrix.Times: the product of two matrices of bytes.
-/
import Derived.Test.YtjolnjckgoilpaaGfFind
import Derived.Test.YtjolnjckgoilpaaRsPairs
set_option linter.unusedVariables false
set_option linter.unusedSimpArgs false
namespace Go.Proofs.Ytjolnjckgoilpaa.Gf
open Go.RowKit Go.Proofs.YtjolnjckgoilpaaW.PrintWords Go.Proofs.YtjolnjckgoilpaaW.PrintLast Go.Proofs.Ytjolnjckgoilpaa.PRa

/-- The sum of bytes. -/
def sx : Nat → (Nat → Nat) → Nat
  | 0, _ => 0
  | n + 1, f => sx n f ^^^ f n
theorem sx_lt (n : Nat) (f : Nat → Nat) (h : ∀ k, k < n → f k < 256) : sx n f < 256 := by
  induction n with
  | zero => show 0 < 256; omega
  | succ n ih => exact GfM.xor_lt _ _ (ih (fun k hk => h k (by omega))) (h n (by omega))

theorem add19 (a b : Nat) (ha : a < 256) (hb : b < 256) (w : World) : Calls Try.prog 69 #[.int .u8 a, .int .u8 b] w fun e w' => e = .returned (.int .u8 ((a ^^^ b : Nat) : Int)) ∧ w = w' := by
  have hx := xor_nat a b ha hb
  have HX : Hid _ := hx
  clear hx
  go_enter Try.func69, Try.ntmps69
  go_wp2
  go_ret
  exact ⟨by rw [← HX.out]; rfl, rfl⟩

set_option maxHeartbeats 1000000 in
theorem fold65 (w : World) (n : Nat) (g : Nat) (caps : Array Value) (f : Nat → Nat) (hn : n ≤ 1000000) (hf256 : ∀ k, k < n → f k < 256)
    (he : ∀ (args : Array Value) (w : World), (callFunc g args).run Try.prog w = .ok (.enter g args) w)
    (hf : ∀ k : Nat, k < n → ∀ W, Below w.heap.size w W → Calls Try.prog g (#[.int .i64 k] ++ caps) W fun e W' => e = .returned (.int .u8 ((f k : Nat) : Int)) ∧ Below W.heap.size W W') :
    Calls Try.prog 70 #[.func (.func 69) #[] #[], .int .i64 n, .func (.func g) #[] caps] w fun e w' => e = .returned (.int .u8 ((sx n f : Nat) : Int)) ∧ Below w.heap.size w w' := by
  have he19 : ∀ (args : Array Value) (w : World), (callFunc 69 args).run Try.prog w = .ok (.enter 69 args) w := Go.Proofs.enters_of Try.func69 (by kernel_rfl) rfl
  go_enter Try.func70, Try.ntmps70
  go_wp2
  go_loopw [7, 10] (fun v i wr => ∃ k : Nat, k ≤ n ∧ i = .int .i64 (k : Nat) ∧ v = .int .u8 ((sx k f : Nat) : Int) ∧ Below w.heap.size w wr) (fun _ i _ => n - (intOf i).toNat)
  case atStart => exact ⟨0, Nat.zero_le _, rfl, rfl, Below.refl _ _⟩
  case round =>
    obtain ⟨k, hk, rfl, rfl, hB⟩ := hrel
    by_cases hlt : k < n
    · have hcall := hf k hlt wr hB
      have hadd := fun W => add19 (sx k f) (f k) (sx_lt k f (fun q hq => hf256 q (by omega))) (hf256 k hlt) W
      have HS : Hid (sx (k + 1) f = sx k f ^^^ f k) := rfl
      generalize sx k f = s0 at *
      generalize f k = fk at *
      go_wp2_with (first | (go_at_call 69; refine (hadd _).mono ?_; rintro e w3 ⟨rfl, rfl⟩) | (refine hcall.mono ?_; rintro e w2 ⟨rfl, hb⟩))
      go_roundw
      case rel => exact ⟨k + 1, by omega, by go_num, by rw [HS.out], hB.trans (hb.mono hB.size)⟩
      case measure => simp [intOf]; omega
    · obtain rfl : k = n := by omega
      go_wp2
      go_ret
      exact ⟨rfl, hB⟩
theorem sum58 (w : World) (n : Nat) (g : Nat) (caps : Array Value) (f : Nat → Nat) (hn : n ≤ 1000000) (hf256 : ∀ k, k < n → f k < 256)
    (he : ∀ (args : Array Value) (w : World), (callFunc g args).run Try.prog w = .ok (.enter g args) w)
    (hf : ∀ k : Nat, k < n → ∀ W, Below w.heap.size w W → Calls Try.prog g (#[.int .i64 k] ++ caps) W fun e W' => e = .returned (.int .u8 ((f k : Nat) : Int)) ∧ Below W.heap.size W W') :
    Calls Try.prog 58 #[.int .i64 n, .func (.func g) #[] caps] w fun e w' => e = .returned (.int .u8 ((sx n f : Nat) : Int)) ∧ Below w.heap.size w w' := by
  have hcon := fold65 w n g caps f hn hf256 he hf
  have HC : Hid _ := hcon
  clear hcon
  generalize sx n f = s at *
  go_enter Try.func58, Try.ntmps58
  go_wp2_with (go_at_call 70; refine Calls.mono HC.out ?_; rintro e w2 ⟨rfl, hb⟩)
  go_ret
  exact ⟨rfl, hb⟩

/-- Byte j of row i. -/
def byt (l : List (List Int)) (i j : Nat) : Nat := ((row l i).getD j 0).toNat
def okB (l : List (List Int)) : Bool := l.all fun r => r.all fun x => decide (0 ≤ x) && decide (x < 256)
theorem okB_at {l : List (List Int)} (h : okB l = true) (i j : Nat) : byt l i j < 256 ∧ (row l i).getD j 0 = ((byt l i j : Nat) : Int) := by
  have : 0 ≤ (row l i).getD j 0 ∧ (row l i).getD j 0 < 256 := by
    unfold row
    simp only [List.getD_eq_getElem?_getD]
    by_cases hi : i < l.length
    · rw [List.getElem?_eq_getElem hi]
      by_cases hj : j < (l[i]).length
      · simp only [okB, List.all_eq_true] at h
        have := h l[i] (List.getElem_mem hi) _ (List.getElem_mem hj)
        simp only [Bool.and_eq_true, decide_eq_true_eq] at this
        simpa [List.getElem?_eq_getElem hj] using this
      · simp [List.getElem?_eq_none (Nat.le_of_not_lt hj)]
    · simp [List.getElem?_eq_none (Nat.le_of_not_lt hi)]
  unfold byt
  omega
theorem byte_at {w : World} {A : Option Addr} {r : List Int} (h : KB.C w A r.length r) {j : Nat} (hj : j < r.length) : ∃ ad, A = some ad ∧ w.cell? (ad.add j) = some (.int .u8 (r.getD j 0)) := by
  obtain ⟨ad, e, hc⟩ := Kd.at_int h (j : Int) (by omega) (by omega)
  refine ⟨ad, e, ?_⟩
  rw [Int.toNat_natCast] at hc
  exact hc

theorem quiet_drawn {P : Program} {f : FuncId} {args : Array Value} {w : World} {n : Nat} {v : Value}
    (h : ∀ W, Calls P f args W fun e w' => e = .returned v ∧ Drawn0 W w') : Calls P f args (w.drewN n) fun e w'' => e = .returned v ∧ ∃ m, w'' = w.drewN m :=
  (h _).mono fun _ _ ⟨he, ⟨m, hm⟩⟩ => ⟨he, n + m, by rw [hm, World.drewN_drewN]⟩
set_option maxHeartbeats 1000000 in
theorem times59 (w : World) (lm lo : List (List Int)) (Am Ao : Option Addr) (cm co mb ib ob jb i j k : Nat) (hM : KR.C w Am lm.length lm) (hO : KR.C w Ao lo.length lo)
    (hmb : w.cell? ⟨mb, 0, none⟩ = some (.slice Am lm.length cm)) (hib : w.cell? ⟨ib, 0, none⟩ = some (.int .i64 i)) (hob : w.cell? ⟨ob, 0, none⟩ = some (.slice Ao lo.length co)) (hjb : w.cell? ⟨jb, 0, none⟩ = some (.int .i64 j))
    (okm : okB lm = true) (oko : okB lo = true) (hi : i < lm.length) (hk : k < (row lm i).length) (hk2 : k < lo.length) (hj : j < (row lo k).length) :
    Calls Try.prog 59 #[.int .i64 k, .pointer (some ⟨mb, 0, none⟩), .pointer (some ⟨ib, 0, none⟩), .pointer (some ⟨ob, 0, none⟩), .pointer (some ⟨jb, 0, none⟩)] w
      fun e w' => e = .returned (.int .u8 ((GfM.M (byt lm i k) (byt lo k j) : Nat) : Int)) ∧ Drawn0 w w' := by
  obtain ⟨adm, Am1, cm1, rfl, hm1, hlm, hMi⟩ := rows_at hM hi
  obtain ⟨ado, Ao1, co1, rfl, ho1, hlo, hOk⟩ := rows_at hO hk2
  obtain ⟨am2, rfl, hm2⟩ := byte_at hMi hk
  obtain ⟨ao2, rfl, ho2⟩ := byte_at hOk hj
  rw [(okB_at okm i k).2] at hm2
  rw [(okB_at oko k j).2] at ho2
  have hmul := mul_ok 9 (byt lm i k) (byt lo k j) (by omega) (okB_at okm i k).1 (okB_at oko k j).1
  have hcall := fun W => gf_Mul.calls 9 _ _ _ W hmul
  have HC : Hid (∀ W, Calls Try.prog 60 _ W _) := hcall
  clear hcall hmul
  have q1 : (0 : Int) ≤ (i : Int) := by omega
  have q2 : (i : Int) < (lm.length : Int) := by omega
  have q3 : (0 : Int) ≤ (k : Int) := by omega
  have q4 : (k : Int) < (lo.length : Int) := by omega
  have q5 : (k : Int) < ((row lm i).length : Int) := by omega
  have q6 : (0 : Int) ≤ (j : Int) := by omega
  have q7 : (j : Int) < ((row lo k).length : Int) := by omega
  generalize GfM.M (byt lm i k) (byt lo k j) = r at *
  generalize byt lm i k = x at *
  generalize byt lo k j = y at *
  generalize row lm i = rm at *
  generalize row lo k = ro at *
  go_enter Try.func59, Try.ntmps59
  go_wp2
  go_quiet ((go_at_call 60; exact quiet_drawn HC.out))
  go_wp2
  go_ret
  exact ⟨rfl, ⟨_, rfl⟩⟩
theorem below2 (w : World) (o o' : Obj) : Below w.heap.size w ((w.alloc o).alloc o') := ((Below.refl _ _).alloc (Nat.le_refl _) o).alloc (by simp) o'
theorem cell2a (w : World) (v v' : Value) (t t' : TypeId) : ((w.alloc (.cells #[v] t)).alloc (.cells #[v'] t')).cell? ⟨w.heap.size, 0, none⟩ = some v := by
  rw [World.cell?_alloc_past _ _ _ (by simp), World.cell?_alloc_at _ _ _ _ rfl]; rfl
theorem cell2b (w : World) (v v' : Value) (t t' : TypeId) : ((w.alloc (.cells #[v] t)).alloc (.cells #[v'] t')).cell? ⟨w.heap.size + 1, 0, none⟩ = some v' := by
  rw [World.cell?_alloc_at _ _ _ _ (by simp)]; rfl
/-- Element i, j of the product. -/
def prod (lm lo : List (List Int)) (i j : Nat) : Nat := sx lo.length fun k => GfM.M (byt lm i k) (byt lo k j)
set_option maxHeartbeats 1000000 in
theorem times57 (w : World) (lm lo : List (List Int)) (Am Ao : Option Addr) (cm co mb ob i j : Nat) (hM : KR.C w Am lm.length lm) (hO : KR.C w Ao lo.length lo)
    (hmb : w.cell? ⟨mb, 0, none⟩ = some (.slice Am lm.length cm)) (hob : w.cell? ⟨ob, 0, none⟩ = some (.slice Ao lo.length co))
    (okm : okB lm = true) (oko : okB lo = true) (hi : i < lm.length) (hl : lo.length ≤ 1000000) (hk : lo.length ≤ (row lm i).length) (hj : ∀ k, k < lo.length → j < (row lo k).length) :
    Calls Try.prog 57 #[.int .i64 i, .int .i64 j, .pointer (some ⟨ob, 0, none⟩), .pointer (some ⟨mb, 0, none⟩)] w
      fun e w' => e = .returned (.int .u8 ((prod lm lo i j : Nat) : Int)) ∧ Below w.heap.size w w' := by
  have hmf : ∀ (fn : Fn) (first cap : Array Value) (w : World), (Instr.makeFunc fn first cap).run Try.prog w = .ok (.func fn first cap) w := fun _ _ _ _ => rfl
  have hb2 := below2 w (.cells #[.int .i64 i] 3) (.cells #[.int .i64 j] 3)
  have hcon := sum58 ((w.alloc (.cells #[.int .i64 i] 3)).alloc (.cells #[.int .i64 j] 3)) lo.length 59 #[.pointer (some ⟨mb, 0, none⟩), .pointer (some ⟨w.heap.size, 0, none⟩), .pointer (some ⟨ob, 0, none⟩), .pointer (some ⟨w.heap.size + 1, 0, none⟩)]
    (fun k => GfM.M (byt lm i k) (byt lo k j)) hl (fun k _ => GfM.M_lt _ _ (okB_at okm i k).1) (Go.Proofs.enters_of Try.func59 (by kernel_rfl) rfl) (by
      intro k hk2 W hW
      have hWw := hb2.trans (hW.mono (by simp; omega))
      refine (times59 W lm lo Am Ao cm co mb w.heap.size ob (w.heap.size + 1) i j k (Kd.C_below hM hWw) (Kd.C_below hO hWw) (pw_cell_below hWw hmb) ((hW.cell (p := ⟨w.heap.size, 0, none⟩) (by simp; omega)).trans (cell2a w _ _ _ _)) (pw_cell_below hWw hob) ((hW.cell (p := ⟨w.heap.size + 1, 0, none⟩) (by simp)).trans (cell2b w _ _ _ _)) okm oko hi (by omega) hk2 (hj k hk2)).mono ?_
      rintro e w' ⟨rfl, hd⟩
      exact ⟨rfl, hd.below⟩)
  have hcon2 : Calls Try.prog 58 #[.int .i64 lo.length, .func (.func 59) #[] #[.pointer (some ⟨mb, 0, none⟩), .pointer (some ⟨w.heap.size, 0, none⟩), .pointer (some ⟨ob, 0, none⟩), .pointer (some ⟨w.heap.size + 1, 0, none⟩)]] ((w.alloc (.cells #[.int .i64 i] 3)).alloc (.cells #[.int .i64 j] 3)) (fun e w' => e = .returned (.int .u8 ((prod lm lo i j : Nat) : Int)) ∧ Below ((w.alloc (.cells #[.int .i64 i] 3)).alloc (.cells #[.int .i64 j] 3)).heap.size ((w.alloc (.cells #[.int .i64 i] 3)).alloc (.cells #[.int .i64 j] 3)) w') := hcon
  have HC : Hid _ := hcon2
  clear hcon hcon2
  generalize prod lm lo i j = r at *
  have hob2 := pw_cell_below hb2 hob
  go_enter Try.func57, Try.ntmps57
  go_wp2_with (go_at_call 58; refine Calls.mono HC.out ?_; rintro e w2 ⟨rfl, hb⟩)
  go_ret
  exact ⟨rfl, hb2.trans (hb.mono (by simp; omega))⟩
theorem right_hid {w : World} {l : List (List Int)} {A : Option Addr} {c : Nat} {b : Bool} (hC : KR.C w A l.length l) (hb : rightB l = b) :
    Hid (∀ W, Below w.heap.size w W → Calls Try.prog 46 #[.slice A l.length c] W fun e w' => e = .returned (.bool b) ∧ Below W.heap.size W w') := fun W hW => by
  have := right27 W l A c (Kd.C_below hC hW)
  rwa [hb] at this
set_option maxHeartbeats 2000000 in
theorem times31_no1 (w : World) (lm lo : List (List Int)) (Am Ao : Option Addr) (cm co : Nat) (hM : KR.C w Am lm.length lm) (hm : rightB lm = false) :
    Calls Try.prog 31 #[.slice Am lm.length cm, .slice Ao lo.length co] w fun e w' => e = .returned (.tuple #[.slice none 0 0, .int .i64 1]) ∧ Below w.heap.size w w' := by
  have hb2 := below2 w (.cells #[.slice Am lm.length cm] 46) (.cells #[.slice Ao lo.length co] 46)
  have hca := cell2a w (.slice Am lm.length cm) (.slice Ao lo.length co) 46 46
  have HR := right_hid (c := cm) hM hm
  clear hm
  go_enter Try.func31, Try.ntmps31
  go_wp2
  refine start_ (n := 17) (S := fun w' => w'.cell? ⟨w.heap.size, 0, none⟩ = some (.slice Am lm.length cm)) (ds := []) #[false, false, false, false, false, false, false, false, false, false, false, false, false, false, false, false, false] (by kernel_rfl) rfl rfl (hca) (fun hHeld => ?_)
  refine take_ (i := 0) (N := some 6) (v := ?_) (a' := ?_) #[true, false, false, false, false, false, false, false, false, false, false, false, false, false, false, false, false] rfl rfl (by kernel_rfl) (fun _ _ _ h => h) (Or.inl ⟨by rfl, ?_⟩) hHeld ?_ ?_
  rotate_left
  · intro w' s0
    go_simp
    with_reducible rfl
  rotate_left
  · simp only [Act.put, List.setIfInBounds_toArray, List.set_cons_zero, List.set_cons_succ, i64_w, i32_w]
    rfl
  refine one_ (i := 1) (N := some 7) #[true, true, false, false, false, false, false, false, false, false, false, false, false, false, false, false, false] rfl rfl (by kernel_rfl) (by decide) (fun K hK => ?_)
  refine goes_ Try.func46 (by kernel_rfl) rfl #[.slice Am lm.length cm] (by rfl) rfl rfl (by simp only [List.map_toArray, List.map_cons, List.map_nil]; rfl) ?_
  refine Calls.mono (HR.out _ hb2.drew) ?_
  rintro e w2 ⟨rfl, hb⟩
  refine ⟨_, rfl, ?_⟩
  refine hK.out _ _ ((hb.cell (p := ⟨w.heap.size, 0, none⟩) (by simp; omega)).trans hca) (fun hHeld => ?_)
  clear hK K
  refine norm_ (a' := ?_) ?_ ?_
  rotate_left
  · show Act.put _ (some 7) _ = _
    simp only [Act.put, List.setIfInBounds_toArray, List.set_cons_zero, List.set_cons_succ, i64_w, i32_w]
    rfl
  refine pure_ (i := 2) (N := some 8) (v := ?_) (a' := ?_) #[true, true, true, false, false, false, false, false, false, false, false, false, false, false, false, false, false] rfl rfl (by kernel_rfl) (fun _ _ _ h => h) (Or.inl ⟨by rfl, ?_⟩) ?_ ?_
  rotate_left
  · intro w'
    go_simp
    with_reducible rfl
  rotate_left
  · simp only [Act.put, List.setIfInBounds_toArray, List.set_cons_zero, List.set_cons_succ, i64_w, i32_w]
    rfl
  refine pure_ (i := 3) (N := some 9) (v := ?_) (a' := ?_) #[true, true, true, true, false, false, false, false, false, false, false, false, false, false, false, false, false] rfl rfl (by kernel_rfl) (fun _ _ _ h => h) (Or.inl ⟨by rfl, ?_⟩) ?_ ?_
  rotate_left
  · intro w'
    go_simp
    with_reducible rfl
  rotate_left
  · simp only [Act.put, List.setIfInBounds_toArray, List.set_cons_zero, List.set_cons_succ, i64_w, i32_w]
    rfl
  refine pure_ (i := 4) (N := some 10) (v := undef) (a' := ?_) #[true, true, true, true, true, false, false, false, false, false, false, false, false, false, false, false, false] rfl rfl (by kernel_rfl) (fun _ _ _ h => h) (Or.inr ⟨by rfl, rfl⟩) ?_ ?_
  rotate_left
  · simp only [Act.put, List.setIfInBounds_toArray, List.set_cons_zero, List.set_cons_succ, i64_w, i32_w]
    rfl
  refine pure_ (i := 5) (N := some 11) (v := undef) (a' := ?_) #[true, true, true, true, true, true, false, false, false, false, false, false, false, false, false, false, false] rfl rfl (by kernel_rfl) (fun _ _ _ h => h) (Or.inr ⟨by rfl, rfl⟩) ?_ ?_
  rotate_left
  · simp only [Act.put, List.setIfInBounds_toArray, List.set_cons_zero, List.set_cons_succ, i64_w, i32_w]
    rfl
  refine pure_ (i := 6) (N := some 12) (v := undef) (a' := ?_) #[true, true, true, true, true, true, true, false, false, false, false, false, false, false, false, false, false] rfl rfl (by kernel_rfl) (fun _ _ _ h => h) (Or.inr ⟨by rfl, rfl⟩) ?_ ?_
  rotate_left
  · simp only [Act.put, List.setIfInBounds_toArray, List.set_cons_zero, List.set_cons_succ, i64_w, i32_w]
    rfl
  refine pure_ (i := 7) (N := some 13) (v := ?_) (a' := ?_) #[true, true, true, true, true, true, true, true, false, false, false, false, false, false, false, false, false] rfl rfl (by kernel_rfl) (fun _ _ _ h => h) (Or.inl ⟨by rfl, ?_⟩) ?_ ?_
  rotate_left
  · intro w'
    go_simp
    with_reducible rfl
  rotate_left
  · simp only [Act.put, List.setIfInBounds_toArray, List.set_cons_zero, List.set_cons_succ, i64_w, i32_w]
    rfl
  refine pure_ (i := 8) (N := some 14) (v := ?_) (a' := ?_) #[true, true, true, true, true, true, true, true, true, false, false, false, false, false, false, false, false] rfl rfl (by kernel_rfl) (fun _ _ _ h => h) (Or.inl ⟨by rfl, ?_⟩) ?_ ?_
  rotate_left
  · intro w'
    go_simp
    with_reducible rfl
  rotate_left
  · simp only [Act.put, List.setIfInBounds_toArray, List.set_cons_zero, List.set_cons_succ, i64_w, i32_w]
    rfl
  refine pure_ (i := 9) (N := some 15) (v := undef) (a' := ?_) #[true, true, true, true, true, true, true, true, true, true, false, false, false, false, false, false, false] rfl rfl (by kernel_rfl) (fun _ _ _ h => h) (Or.inr ⟨by rfl, rfl⟩) ?_ ?_
  rotate_left
  · simp only [Act.put, List.setIfInBounds_toArray, List.set_cons_zero, List.set_cons_succ, i64_w, i32_w]
    rfl
  refine pure_ (i := 10) (N := some 16) (v := undef) (a' := ?_) #[true, true, true, true, true, true, true, true, true, true, true, false, false, false, false, false, false] rfl rfl (by kernel_rfl) (fun _ _ _ h => h) (Or.inr ⟨by rfl, rfl⟩) ?_ ?_
  rotate_left
  · simp only [Act.put, List.setIfInBounds_toArray, List.set_cons_zero, List.set_cons_succ, i64_w, i32_w]
    rfl
  refine pure_ (i := 11) (N := some 17) (v := undef) (a' := ?_) #[true, true, true, true, true, true, true, true, true, true, true, true, false, false, false, false, false] rfl rfl (by kernel_rfl) (fun _ _ _ h => h) (Or.inr ⟨by rfl, rfl⟩) ?_ ?_
  rotate_left
  · simp only [Act.put, List.setIfInBounds_toArray, List.set_cons_zero, List.set_cons_succ, i64_w, i32_w]
    rfl
  refine pure_ (i := 12) (N := some 18) (v := undef) (a' := ?_) #[true, true, true, true, true, true, true, true, true, true, true, true, true, false, false, false, false] rfl rfl (by kernel_rfl) (fun _ _ _ h => h) (Or.inr ⟨by rfl, rfl⟩) ?_ ?_
  rotate_left
  · simp only [Act.put, List.setIfInBounds_toArray, List.set_cons_zero, List.set_cons_succ, i64_w, i32_w]
    rfl
  refine pure_ (i := 13) (N := some 19) (v := undef) (a' := ?_) #[true, true, true, true, true, true, true, true, true, true, true, true, true, true, false, false, false] rfl rfl (by kernel_rfl) (fun _ _ _ h => h) (Or.inr ⟨by rfl, rfl⟩) ?_ ?_
  rotate_left
  · simp only [Act.put, List.setIfInBounds_toArray, List.set_cons_zero, List.set_cons_succ, i64_w, i32_w]
    rfl
  refine pure_ (i := 14) (N := some 20) (v := undef) (a' := ?_) #[true, true, true, true, true, true, true, true, true, true, true, true, true, true, true, false, false] rfl rfl (by kernel_rfl) (fun _ _ _ h => h) (Or.inr ⟨by rfl, rfl⟩) ?_ ?_
  rotate_left
  · simp only [Act.put, List.setIfInBounds_toArray, List.set_cons_zero, List.set_cons_succ, i64_w, i32_w]
    rfl
  refine pure_ (i := 15) (N := some 21) (v := undef) (a' := ?_) #[true, true, true, true, true, true, true, true, true, true, true, true, true, true, true, true, false] rfl rfl (by kernel_rfl) (fun _ _ _ h => h) (Or.inr ⟨by rfl, rfl⟩) ?_ ?_
  rotate_left
  · simp only [Act.put, List.setIfInBounds_toArray, List.set_cons_zero, List.set_cons_succ, i64_w, i32_w]
    rfl
  refine pure_ (i := 16) (N := some 22) (v := ?_) (a' := ?_) #[true, true, true, true, true, true, true, true, true, true, true, true, true, true, true, true, true] rfl rfl (by kernel_rfl) (fun _ _ _ h => h) (Or.inl ⟨by rfl, ?_⟩) ?_ ?_
  rotate_left
  · intro w'
    go_simp
    with_reducible rfl
  rotate_left
  · simp only [Act.put, List.setIfInBounds_toArray, List.set_cons_zero, List.set_cons_succ, i64_w, i32_w]
    rfl
  refine done_ (by kernel_rfl) ?_
  go_wp2
  go_ret2
  exact ⟨rfl, hb2.drew.trans (hb.mono (by simp; omega))⟩
set_option maxHeartbeats 2000000 in
theorem times31_no2 (w : World) (lm lo : List (List Int)) (Am Ao : Option Addr) (cm co : Nat) (hM : KR.C w Am lm.length lm) (hO : KR.C w Ao lo.length lo) (hm : rightB lm = true) (ho : rightB lo = false) :
    Calls Try.prog 31 #[.slice Am lm.length cm, .slice Ao lo.length co] w fun e w' => e = .returned (.tuple #[.slice none 0 0, .int .i64 1]) ∧ Below w.heap.size w w' := by
  have hb2 := below2 w (.cells #[.slice Am lm.length cm] 46) (.cells #[.slice Ao lo.length co] 46)
  have hca := cell2a w (.slice Am lm.length cm) (.slice Ao lo.length co) 46 46
  have hcb := cell2b w (.slice Am lm.length cm) (.slice Ao lo.length co) 46 46
  have HR := right_hid (c := cm) hM hm
  have HR2 := right_hid (c := co) hO ho
  clear hm ho
  go_enter Try.func31, Try.ntmps31
  go_wp2
  refine start_ (n := 17) (S := fun w' => w'.cell? ⟨w.heap.size, 0, none⟩ = some (.slice Am lm.length cm) ∧ w'.cell? ⟨w.heap.size + 1, 0, none⟩ = some (.slice Ao lo.length co)) (ds := []) #[false, false, false, false, false, false, false, false, false, false, false, false, false, false, false, false, false] (by kernel_rfl) rfl rfl ⟨hca, hcb⟩ (fun hHeld => ?_)
  refine take_ (i := 0) (N := some 6) (v := ?_) (a' := ?_) #[true, false, false, false, false, false, false, false, false, false, false, false, false, false, false, false, false] rfl rfl (by kernel_rfl) (fun _ _ _ h => h) (Or.inl ⟨by rfl, ?_⟩) hHeld ?_ ?_
  rotate_left
  · rintro w' ⟨s0, s1⟩
    go_simp
    with_reducible rfl
  rotate_left
  · simp only [Act.put, List.setIfInBounds_toArray, List.set_cons_zero, List.set_cons_succ, i64_w, i32_w]
    rfl
  refine one_ (i := 1) (N := some 7) #[true, true, false, false, false, false, false, false, false, false, false, false, false, false, false, false, false] rfl rfl (by kernel_rfl) (by decide) (fun K hK => ?_)
  refine goes_ Try.func46 (by kernel_rfl) rfl #[.slice Am lm.length cm] (by rfl) rfl rfl (by simp only [List.map_toArray, List.map_cons, List.map_nil]; rfl) ?_
  refine Calls.mono (HR.out _ hb2.drew) ?_
  rintro e w2 ⟨rfl, hb⟩
  refine ⟨_, rfl, ?_⟩
  refine hK.out _ _ ⟨(hb.cell (p := ⟨w.heap.size, 0, none⟩) (by simp; omega)).trans hca, (hb.cell (p := ⟨w.heap.size + 1, 0, none⟩) (by simp)).trans hcb⟩ (fun hHeld => ?_)
  clear hK K
  refine norm_ (a' := ?_) ?_ ?_
  rotate_left
  · show Act.put _ (some 7) _ = _
    simp only [Act.put, List.setIfInBounds_toArray, List.set_cons_zero, List.set_cons_succ, i64_w, i32_w]
    rfl
  refine pure_ (i := 2) (N := some 8) (v := ?_) (a' := ?_) #[true, true, true, false, false, false, false, false, false, false, false, false, false, false, false, false, false] rfl rfl (by kernel_rfl) (fun _ _ _ h => h) (Or.inl ⟨by rfl, ?_⟩) ?_ ?_
  rotate_left
  · intro w'
    go_simp
    with_reducible rfl
  rotate_left
  · simp only [Act.put, List.setIfInBounds_toArray, List.set_cons_zero, List.set_cons_succ, i64_w, i32_w]
    rfl
  refine pure_ (i := 3) (N := some 9) (v := ?_) (a' := ?_) #[true, true, true, true, false, false, false, false, false, false, false, false, false, false, false, false, false] rfl rfl (by kernel_rfl) (fun _ _ _ h => h) (Or.inl ⟨by rfl, ?_⟩) ?_ ?_
  rotate_left
  · intro w'
    go_simp
    with_reducible rfl
  rotate_left
  · simp only [Act.put, List.setIfInBounds_toArray, List.set_cons_zero, List.set_cons_succ, i64_w, i32_w]
    rfl
  refine take_ (i := 4) (N := some 10) (v := ?_) (a' := ?_) #[true, true, true, true, true, false, false, false, false, false, false, false, false, false, false, false, false] rfl rfl (by kernel_rfl) (fun _ _ _ h => h) (Or.inl ⟨by rfl, ?_⟩) hHeld ?_ ?_
  rotate_left
  · rintro w' ⟨s0, s1⟩
    go_simp
    with_reducible rfl
  rotate_left
  · simp only [Act.put, List.setIfInBounds_toArray, List.set_cons_zero, List.set_cons_succ, i64_w, i32_w]
    rfl
  refine one_ (i := 5) (N := some 11) #[true, true, true, true, true, true, false, false, false, false, false, false, false, false, false, false, false] rfl rfl (by kernel_rfl) (by decide) (fun K hK => ?_)
  refine goes_ Try.func46 (by kernel_rfl) rfl #[.slice Ao lo.length co] (by rfl) rfl rfl (by simp only [List.map_toArray, List.map_cons, List.map_nil]; rfl) ?_
  refine Calls.mono (HR2.out _ (hb2.drew.trans (hb.mono (by simp; omega)))) ?_
  rintro e w3 ⟨rfl, hb3⟩
  refine ⟨_, rfl, ?_⟩
  refine hK.out _ _ ⟨(hb3.cell (p := ⟨w.heap.size, 0, none⟩) (by show w.heap.size < _; have := hb.size; simp at this; omega)).trans ((hb.cell (p := ⟨w.heap.size, 0, none⟩) (by simp; omega)).trans hca), (hb3.cell (p := ⟨w.heap.size + 1, 0, none⟩) (by show w.heap.size + 1 < _; have := hb.size; simp at this; omega)).trans ((hb.cell (p := ⟨w.heap.size + 1, 0, none⟩) (by simp)).trans hcb)⟩ (fun hHeld => ?_)
  clear hK K
  refine norm_ (a' := ?_) ?_ ?_
  rotate_left
  · show Act.put _ (some 11) _ = _
    simp only [Act.put, List.setIfInBounds_toArray, List.set_cons_zero, List.set_cons_succ, i64_w, i32_w]
    rfl
  refine pure_ (i := 6) (N := some 12) (v := ?_) (a' := ?_) #[true, true, true, true, true, true, true, false, false, false, false, false, false, false, false, false, false] rfl rfl (by kernel_rfl) (fun _ _ _ h => h) (Or.inl ⟨by rfl, ?_⟩) ?_ ?_
  rotate_left
  · intro w'
    go_simp
    with_reducible rfl
  rotate_left
  · simp only [Act.put, List.setIfInBounds_toArray, List.set_cons_zero, List.set_cons_succ, i64_w, i32_w]
    rfl
  refine pure_ (i := 7) (N := some 13) (v := ?_) (a' := ?_) #[true, true, true, true, true, true, true, true, false, false, false, false, false, false, false, false, false] rfl rfl (by kernel_rfl) (fun _ _ _ h => h) (Or.inl ⟨by rfl, ?_⟩) ?_ ?_
  rotate_left
  · intro w'
    go_simp
    with_reducible rfl
  rotate_left
  · simp only [Act.put, List.setIfInBounds_toArray, List.set_cons_zero, List.set_cons_succ, i64_w, i32_w]
    rfl
  refine pure_ (i := 8) (N := some 14) (v := ?_) (a' := ?_) #[true, true, true, true, true, true, true, true, true, false, false, false, false, false, false, false, false] rfl rfl (by kernel_rfl) (fun _ _ _ h => h) (Or.inl ⟨by rfl, ?_⟩) ?_ ?_
  rotate_left
  · intro w'
    go_simp
    with_reducible rfl
  rotate_left
  · simp only [Act.put, List.setIfInBounds_toArray, List.set_cons_zero, List.set_cons_succ, i64_w, i32_w]
    rfl
  refine pure_ (i := 9) (N := some 15) (v := undef) (a' := ?_) #[true, true, true, true, true, true, true, true, true, true, false, false, false, false, false, false, false] rfl rfl (by kernel_rfl) (fun _ _ _ h => h) (Or.inr ⟨by rfl, rfl⟩) ?_ ?_
  rotate_left
  · simp only [Act.put, List.setIfInBounds_toArray, List.set_cons_zero, List.set_cons_succ, i64_w, i32_w]
    rfl
  refine pure_ (i := 10) (N := some 16) (v := undef) (a' := ?_) #[true, true, true, true, true, true, true, true, true, true, true, false, false, false, false, false, false] rfl rfl (by kernel_rfl) (fun _ _ _ h => h) (Or.inr ⟨by rfl, rfl⟩) ?_ ?_
  rotate_left
  · simp only [Act.put, List.setIfInBounds_toArray, List.set_cons_zero, List.set_cons_succ, i64_w, i32_w]
    rfl
  refine pure_ (i := 11) (N := some 17) (v := undef) (a' := ?_) #[true, true, true, true, true, true, true, true, true, true, true, true, false, false, false, false, false] rfl rfl (by kernel_rfl) (fun _ _ _ h => h) (Or.inr ⟨by rfl, rfl⟩) ?_ ?_
  rotate_left
  · simp only [Act.put, List.setIfInBounds_toArray, List.set_cons_zero, List.set_cons_succ, i64_w, i32_w]
    rfl
  refine pure_ (i := 12) (N := some 18) (v := undef) (a' := ?_) #[true, true, true, true, true, true, true, true, true, true, true, true, true, false, false, false, false] rfl rfl (by kernel_rfl) (fun _ _ _ h => h) (Or.inr ⟨by rfl, rfl⟩) ?_ ?_
  rotate_left
  · simp only [Act.put, List.setIfInBounds_toArray, List.set_cons_zero, List.set_cons_succ, i64_w, i32_w]
    rfl
  refine pure_ (i := 13) (N := some 19) (v := undef) (a' := ?_) #[true, true, true, true, true, true, true, true, true, true, true, true, true, true, false, false, false] rfl rfl (by kernel_rfl) (fun _ _ _ h => h) (Or.inr ⟨by rfl, rfl⟩) ?_ ?_
  rotate_left
  · simp only [Act.put, List.setIfInBounds_toArray, List.set_cons_zero, List.set_cons_succ, i64_w, i32_w]
    rfl
  refine pure_ (i := 14) (N := some 20) (v := undef) (a' := ?_) #[true, true, true, true, true, true, true, true, true, true, true, true, true, true, true, false, false] rfl rfl (by kernel_rfl) (fun _ _ _ h => h) (Or.inr ⟨by rfl, rfl⟩) ?_ ?_
  rotate_left
  · simp only [Act.put, List.setIfInBounds_toArray, List.set_cons_zero, List.set_cons_succ, i64_w, i32_w]
    rfl
  refine pure_ (i := 15) (N := some 21) (v := undef) (a' := ?_) #[true, true, true, true, true, true, true, true, true, true, true, true, true, true, true, true, false] rfl rfl (by kernel_rfl) (fun _ _ _ h => h) (Or.inr ⟨by rfl, rfl⟩) ?_ ?_
  rotate_left
  · simp only [Act.put, List.setIfInBounds_toArray, List.set_cons_zero, List.set_cons_succ, i64_w, i32_w]
    rfl
  refine pure_ (i := 16) (N := some 22) (v := ?_) (a' := ?_) #[true, true, true, true, true, true, true, true, true, true, true, true, true, true, true, true, true] rfl rfl (by kernel_rfl) (fun _ _ _ h => h) (Or.inl ⟨by rfl, ?_⟩) ?_ ?_
  rotate_left
  · intro w'
    go_simp
    with_reducible rfl
  rotate_left
  · simp only [Act.put, List.setIfInBounds_toArray, List.set_cons_zero, List.set_cons_succ, i64_w, i32_w]
    rfl
  refine done_ (by kernel_rfl) ?_
  go_wp2
  go_ret2
  have := hb.size
  simp at this
  exact ⟨rfl, (hb2.drew.trans (hb.mono (by simp; omega))).trans (hb3.mono (by omega))⟩
set_option maxHeartbeats 4000000 in
theorem times31_yes (w : World) (lm lo : List (List Int)) (Am Ao : Option Addr) (cm co : Nat) (hM : KR.C w Am lm.length lm) (hO : KR.C w Ao lo.length lo) (hm : rightB lm = true) (ho : rightB lo = true) (hne : (row lm 0).length ≠ lo.length) :
    Calls Try.prog 31 #[.slice Am lm.length cm, .slice Ao lo.length co] w fun e w' => e = .returned (.tuple #[.slice none 0 0, .int .i64 1]) ∧ Below w.heap.size w w' := by
  have hb2 := below2 w (.cells #[.slice Am lm.length cm] 46) (.cells #[.slice Ao lo.length co] 46)
  have hca := cell2a w (.slice Am lm.length cm) (.slice Ao lo.length co) 46 46
  have hcb := cell2b w (.slice Am lm.length cm) (.slice Ao lo.length co) 46 46
  have HR := right_hid (c := cm) hM hm
  have HR2 := right_hid (c := co) hO ho
  have hlm : 0 < lm.length := by simp [rightB] at hm; omega
  obtain ⟨adm, A2, c2, rfl, hcell, hle, hI⟩ := rows_at hM hlm
  rw [Addr.add_zero'] at hcell
  have hltm := World.block_lt_of_cell? w _ hcell
  have hcell2 := pw_cell_below hb2 hcell
  clear hm ho
  have e2 : (((row lm 0).length : Int) != (lo.length : Int)) = true := by simp; omega
  have q : (0 : Int) < (lm.length : Int) := by omega
  clear hne
  generalize row lm 0 = r at *
  go_enter Try.func31, Try.ntmps31
  go_wp2
  refine start_ (n := 17) (S := fun w' => w'.cell? ⟨w.heap.size, 0, none⟩ = some (.slice (some adm) lm.length cm) ∧ w'.cell? ⟨w.heap.size + 1, 0, none⟩ = some (.slice Ao lo.length co) ∧ w'.cell? adm = some (.slice A2 r.length c2)) (ds := []) #[false, false, false, false, false, false, false, false, false, false, false, false, false, false, false, false, false] (by kernel_rfl) rfl rfl ⟨hca, hcb, hcell2⟩ (fun hHeld => ?_)
  refine take_ (i := 0) (N := some 6) (v := ?_) (a' := ?_) #[true, false, false, false, false, false, false, false, false, false, false, false, false, false, false, false, false] rfl rfl (by kernel_rfl) (fun _ _ _ h => h) (Or.inl ⟨by rfl, ?_⟩) hHeld ?_ ?_
  rotate_left
  · rintro w' ⟨s0, s1, s2⟩
    go_simp
    with_reducible rfl
  rotate_left
  · simp only [Act.put, List.setIfInBounds_toArray, List.set_cons_zero, List.set_cons_succ, i64_w, i32_w]
    rfl
  refine one_ (i := 1) (N := some 7) #[true, true, false, false, false, false, false, false, false, false, false, false, false, false, false, false, false] rfl rfl (by kernel_rfl) (by decide) (fun K hK => ?_)
  refine goes_ Try.func46 (by kernel_rfl) rfl #[.slice (some adm) lm.length cm] (by rfl) rfl rfl (by simp only [List.map_toArray, List.map_cons, List.map_nil]; rfl) ?_
  refine Calls.mono (HR.out _ hb2.drew) ?_
  rintro e w2 ⟨rfl, hb⟩
  refine ⟨_, rfl, ?_⟩
  refine hK.out _ _ ⟨(hb.cell (p := ⟨w.heap.size, 0, none⟩) (by simp; omega)).trans hca, (hb.cell (p := ⟨w.heap.size + 1, 0, none⟩) (by simp)).trans hcb, (hb.cell (p := adm) (by simp; omega)).trans hcell2⟩ (fun hHeld => ?_)
  clear hK K
  refine norm_ (a' := ?_) ?_ ?_
  rotate_left
  · show Act.put _ (some 7) _ = _
    simp only [Act.put, List.setIfInBounds_toArray, List.set_cons_zero, List.set_cons_succ, i64_w, i32_w]
    rfl
  refine pure_ (i := 2) (N := some 8) (v := ?_) (a' := ?_) #[true, true, true, false, false, false, false, false, false, false, false, false, false, false, false, false, false] rfl rfl (by kernel_rfl) (fun _ _ _ h => h) (Or.inl ⟨by rfl, ?_⟩) ?_ ?_
  rotate_left
  · intro w'
    go_simp
    with_reducible rfl
  rotate_left
  · simp only [Act.put, List.setIfInBounds_toArray, List.set_cons_zero, List.set_cons_succ, i64_w, i32_w]
    rfl
  refine pure_ (i := 3) (N := some 9) (v := ?_) (a' := ?_) #[true, true, true, true, false, false, false, false, false, false, false, false, false, false, false, false, false] rfl rfl (by kernel_rfl) (fun _ _ _ h => h) (Or.inl ⟨by rfl, ?_⟩) ?_ ?_
  rotate_left
  · intro w'
    go_simp
    with_reducible rfl
  rotate_left
  · simp only [Act.put, List.setIfInBounds_toArray, List.set_cons_zero, List.set_cons_succ, i64_w, i32_w]
    rfl
  refine take_ (i := 4) (N := some 10) (v := ?_) (a' := ?_) #[true, true, true, true, true, false, false, false, false, false, false, false, false, false, false, false, false] rfl rfl (by kernel_rfl) (fun _ _ _ h => h) (Or.inl ⟨by rfl, ?_⟩) hHeld ?_ ?_
  rotate_left
  · rintro w' ⟨s0, s1, s2⟩
    go_simp
    with_reducible rfl
  rotate_left
  · simp only [Act.put, List.setIfInBounds_toArray, List.set_cons_zero, List.set_cons_succ, i64_w, i32_w]
    rfl
  refine one_ (i := 5) (N := some 11) #[true, true, true, true, true, true, false, false, false, false, false, false, false, false, false, false, false] rfl rfl (by kernel_rfl) (by decide) (fun K hK => ?_)
  refine goes_ Try.func46 (by kernel_rfl) rfl #[.slice Ao lo.length co] (by rfl) rfl rfl (by simp only [List.map_toArray, List.map_cons, List.map_nil]; rfl) ?_
  refine Calls.mono (HR2.out _ (hb2.drew.trans (hb.mono (by simp; omega)))) ?_
  rintro e w3 ⟨rfl, hb3⟩
  refine ⟨_, rfl, ?_⟩
  refine hK.out _ _ ⟨(hb3.cell (p := ⟨w.heap.size, 0, none⟩) (by show w.heap.size < _; have := hb.size; simp at this; omega)).trans ((hb.cell (p := ⟨w.heap.size, 0, none⟩) (by simp; omega)).trans hca), (hb3.cell (p := ⟨w.heap.size + 1, 0, none⟩) (by show w.heap.size + 1 < _; have := hb.size; simp at this; omega)).trans ((hb.cell (p := ⟨w.heap.size + 1, 0, none⟩) (by simp)).trans hcb), (hb3.cell (p := adm) (by have := hb.size; simp at this; omega)).trans ((hb.cell (p := adm) (by simp; omega)).trans hcell2)⟩ (fun hHeld => ?_)
  clear hK K
  refine norm_ (a' := ?_) ?_ ?_
  rotate_left
  · show Act.put _ (some 11) _ = _
    simp only [Act.put, List.setIfInBounds_toArray, List.set_cons_zero, List.set_cons_succ, i64_w, i32_w]
    rfl
  refine pure_ (i := 6) (N := some 12) (v := ?_) (a' := ?_) #[true, true, true, true, true, true, true, false, false, false, false, false, false, false, false, false, false] rfl rfl (by kernel_rfl) (fun _ _ _ h => h) (Or.inl ⟨by rfl, ?_⟩) ?_ ?_
  rotate_left
  · intro w'
    go_simp
    with_reducible rfl
  rotate_left
  · simp only [Act.put, List.setIfInBounds_toArray, List.set_cons_zero, List.set_cons_succ, i64_w, i32_w]
    rfl
  refine pure_ (i := 7) (N := some 13) (v := ?_) (a' := ?_) #[true, true, true, true, true, true, true, true, false, false, false, false, false, false, false, false, false] rfl rfl (by kernel_rfl) (fun _ _ _ h => h) (Or.inl ⟨by rfl, ?_⟩) ?_ ?_
  rotate_left
  · intro w'
    go_simp
    with_reducible rfl
  rotate_left
  · simp only [Act.put, List.setIfInBounds_toArray, List.set_cons_zero, List.set_cons_succ, i64_w, i32_w]
    rfl
  refine pure_ (i := 8) (N := some 14) (v := ?_) (a' := ?_) #[true, true, true, true, true, true, true, true, true, false, false, false, false, false, false, false, false] rfl rfl (by kernel_rfl) (fun _ _ _ h => h) (Or.inl ⟨by rfl, ?_⟩) ?_ ?_
  rotate_left
  · intro w'
    go_simp
    with_reducible rfl
  rotate_left
  · simp only [Act.put, List.setIfInBounds_toArray, List.set_cons_zero, List.set_cons_succ, i64_w, i32_w]
    rfl
  refine take_ (i := 9) (N := some 15) (v := ?_) (a' := ?_) #[true, true, true, true, true, true, true, true, true, true, false, false, false, false, false, false, false] rfl rfl (by kernel_rfl) (fun _ _ _ h => h) (Or.inl ⟨by rfl, ?_⟩) hHeld ?_ ?_
  rotate_left
  · rintro w' ⟨s0, s1, s2⟩
    go_simp
    with_reducible rfl
  rotate_left
  · simp only [Act.put, List.setIfInBounds_toArray, List.set_cons_zero, List.set_cons_succ, i64_w, i32_w]
    rfl
  refine pure_ (i := 10) (N := some 16) (v := ?_) (a' := ?_) #[true, true, true, true, true, true, true, true, true, true, true, false, false, false, false, false, false] rfl rfl (by kernel_rfl) (fun _ _ _ h => h) (Or.inl ⟨by rfl, ?_⟩) ?_ ?_
  rotate_left
  · intro w'
    go_simp
    with_reducible rfl
  rotate_left
  · simp only [Act.put, List.setIfInBounds_toArray, List.set_cons_zero, List.set_cons_succ, i64_w, i32_w]
    rfl
  refine take_ (i := 11) (N := some 17) (v := ?_) (a' := ?_) #[true, true, true, true, true, true, true, true, true, true, true, true, false, false, false, false, false] rfl rfl (by kernel_rfl) (fun _ _ _ h => h) (Or.inl ⟨by rfl, ?_⟩) hHeld ?_ ?_
  rotate_left
  · rintro w' ⟨s0, s1, s2⟩
    go_simp
    with_reducible rfl
  rotate_left
  · simp only [Act.put, List.setIfInBounds_toArray, List.set_cons_zero, List.set_cons_succ, i64_w, i32_w]
    rfl
  refine pure_ (i := 12) (N := some 18) (v := ?_) (a' := ?_) #[true, true, true, true, true, true, true, true, true, true, true, true, true, false, false, false, false] rfl rfl (by kernel_rfl) (fun _ _ _ h => h) (Or.inl ⟨by rfl, ?_⟩) ?_ ?_
  rotate_left
  · intro w'
    go_simp
    with_reducible rfl
  rotate_left
  · simp only [Act.put, List.setIfInBounds_toArray, List.set_cons_zero, List.set_cons_succ, i64_w, i32_w]
    rfl
  refine take_ (i := 13) (N := some 19) (v := ?_) (a' := ?_) #[true, true, true, true, true, true, true, true, true, true, true, true, true, true, false, false, false] rfl rfl (by kernel_rfl) (fun _ _ _ h => h) (Or.inl ⟨by rfl, ?_⟩) hHeld ?_ ?_
  rotate_left
  · rintro w' ⟨s0, s1, s2⟩
    go_simp
    with_reducible rfl
  rotate_left
  · simp only [Act.put, List.setIfInBounds_toArray, List.set_cons_zero, List.set_cons_succ, i64_w, i32_w]
    rfl
  refine pure_ (i := 14) (N := some 20) (v := ?_) (a' := ?_) #[true, true, true, true, true, true, true, true, true, true, true, true, true, true, true, false, false] rfl rfl (by kernel_rfl) (fun _ _ _ h => h) (Or.inl ⟨by rfl, ?_⟩) ?_ ?_
  rotate_left
  · intro w'
    go_simp
    with_reducible rfl
  rotate_left
  · simp only [Act.put, List.setIfInBounds_toArray, List.set_cons_zero, List.set_cons_succ, i64_w, i32_w]
    rfl
  refine pure_ (i := 15) (N := some 21) (v := ?_) (a' := ?_) #[true, true, true, true, true, true, true, true, true, true, true, true, true, true, true, true, false] rfl rfl (by kernel_rfl) (fun _ _ _ h => h) (Or.inl ⟨by rfl, ?_⟩) ?_ ?_
  rotate_left
  · intro w'
    go_simp
    with_reducible rfl
  rotate_left
  · simp only [Act.put, List.setIfInBounds_toArray, List.set_cons_zero, List.set_cons_succ, i64_w, i32_w]
    rfl
  refine pure_ (i := 16) (N := some 22) (v := ?_) (a' := ?_) #[true, true, true, true, true, true, true, true, true, true, true, true, true, true, true, true, true] rfl rfl (by kernel_rfl) (fun _ _ _ h => h) (Or.inl ⟨by rfl, ?_⟩) ?_ ?_
  rotate_left
  · intro w'
    go_simp
    with_reducible rfl
  rotate_left
  · simp only [Act.put, List.setIfInBounds_toArray, List.set_cons_zero, List.set_cons_succ, i64_w, i32_w]
    rfl
  refine done_ (by kernel_rfl) ?_
  go_wp2
  go_ret2
  have := hb.size
  simp at this
  exact ⟨rfl, (hb2.drew.trans (hb.mono (by simp; omega))).trans (hb3.mono (by omega))⟩
/-- The matrix is made: the factors fit. -/
theorem times_made (w W : World) (lm lo : List (List Int)) (Am Ao : Option Addr) (cm co mb ob : Nat) (hW : Below w.heap.size w W) (hM : KR.C w Am lm.length lm) (hO : KR.C w Ao lo.length lo)
    (hmb : W.cell? ⟨mb, 0, none⟩ = some (.slice Am lm.length cm)) (hob : W.cell? ⟨ob, 0, none⟩ = some (.slice Ao lo.length co))
    (okm : okB lm = true) (oko : okB lo = true) (hm : rightB lm = true) (ho : rightB lo = true) (he : (row lm 0).length = lo.length) :
    Calls Try.prog 42 #[.int .i64 lm.length, .int .i64 (row lo 0).length, .func (.func 57) #[] #[.pointer (some ⟨ob, 0, none⟩), .pointer (some ⟨mb, 0, none⟩)]] W
      fun e w' => ∃ v0_ : Value, e = .returned v0_ ∧ Kd.S KR 25 w' W.heap.size (fun _ => True) v0_ (matrix lm.length (row lo 0).length (fun i j => ((prod lm lo i j : Nat) : Int))) ∧ Below W.heap.size W w' := by
  simp only [rightB, Bool.and_eq_true, decide_eq_true_eq, Bool.not_eq_true', List.any_eq_false, List.mem_range, ne_eq, Decidable.not_not] at hm ho
  obtain ⟨hm1, hm2, hm3, hm4, hm5⟩ := hm
  obtain ⟨ho1, ho2, ho3, ho4, ho5⟩ := ho
  refine (made_calls W lm.length (row lo 0).length 57 #[.pointer (some ⟨ob, 0, none⟩), .pointer (some ⟨mb, 0, none⟩)] (fun i j => ((prod lm lo i j : Nat) : Int)) hm2 ho4 (Go.Proofs.enters_of Try.func57 (by kernel_rfl) rfl) ?_).mono ?_
  · intro i j hi hj W' hW'
    have hWw := hW.trans (hW'.mono hW.size)
    exact times57 W' lm lo Am Ao cm co mb ob i j (Kd.C_below hM hWw) (Kd.C_below hO hWw) (pw_cell_below hW' hmb) (pw_cell_below hW' hob) okm oko hi (by omega) (by rw [hm5 i hi]; omega) (fun k hk => by rw [ho5 k hk]; exact hj)
  · rintro e w' ⟨b, rfl, hOut⟩
    exact ⟨_, rfl, hOut.owned hm2 ho4, hOut.below⟩
set_option maxHeartbeats 8000000 in
theorem times31_ok (w : World) (lm lo : List (List Int)) (Am Ao : Option Addr) (cm co : Nat) (hM : KR.C w Am lm.length lm) (hO : KR.C w Ao lo.length lo) (okm : okB lm = true) (oko : okB lo = true) (hm : rightB lm = true) (ho : rightB lo = true) (he : (row lm 0).length = lo.length) :
    Calls Try.prog 31 #[.slice Am lm.length cm, .slice Ao lo.length co] w fun e w' => ∃ v0_ : Value, e = .returned (.tuple #[v0_, .int .i64 0]) ∧ Kd.S KR 25 w' w.heap.size (fun _ => True) v0_ (matrix lm.length (row lo 0).length (fun i j => ((prod lm lo i j : Nat) : Int))) ∧ Below w.heap.size w w' := by
  have hmf : ∀ (fn : Fn) (first cap : Array Value) (w : World), (Instr.makeFunc fn first cap).run Try.prog w = .ok (.func fn first cap) w := fun _ _ _ _ => rfl
  have hb2 := below2 w (.cells #[.slice Am lm.length cm] 46) (.cells #[.slice Ao lo.length co] 46)
  have hca := cell2a w (.slice Am lm.length cm) (.slice Ao lo.length co) 46 46
  have hcb := cell2b w (.slice Am lm.length cm) (.slice Ao lo.length co) 46 46
  have HR := right_hid (c := cm) hM hm
  have HR2 := right_hid (c := co) hO ho
  have hlm : 0 < lm.length := by simp [rightB] at hm; omega
  have hlo : 0 < lo.length := by simp [rightB] at ho; omega
  obtain ⟨adm, A2, c2, rfl, hcell, hle, hI⟩ := rows_at hM hlm
  rw [Addr.add_zero'] at hcell
  obtain ⟨ado, A3, c3, rfl, hcello, hle3, hI3⟩ := rows_at hO hlo
  rw [Addr.add_zero'] at hcello
  have hltm := World.block_lt_of_cell? w _ hcell
  have hlto := World.block_lt_of_cell? w _ hcello
  have hcell2 := pw_cell_below hb2 hcell
  have hcello2 := pw_cell_below hb2 hcello
  have e2 : (((row lm 0).length : Int) != (lo.length : Int)) = false := by simp; omega
  have q : (0 : Int) < (lm.length : Int) := by omega
  have q3 : (0 : Int) < (lo.length : Int) := by omega
  have hmade := fun (W : World) (mb ob : Nat) hW h1 h2 => times_made w W lm lo (some adm) (some ado) cm co mb ob hW hM hO h1 h2 okm oko hm ho he
  have HM : Hid _ := hmade
  clear hm ho hmade
  have HE : Hid ((row lm 0).length = lo.length) := he
  clear he
  generalize matrix lm.length (row lo 0).length (fun i j => ((prod lm lo i j : Nat) : Int)) = mat at *
  generalize row lm 0 = r at *
  generalize row lo 0 = r3 at *
  go_enter Try.func31, Try.ntmps31
  go_wp2
  refine start_ (n := 17) (S := fun w' => w'.cell? ⟨w.heap.size, 0, none⟩ = some (.slice (some adm) lm.length cm) ∧ w'.cell? ⟨w.heap.size + 1, 0, none⟩ = some (.slice (some ado) lo.length co) ∧ w'.cell? adm = some (.slice A2 r.length c2)) (ds := []) #[false, false, false, false, false, false, false, false, false, false, false, false, false, false, false, false, false] (by kernel_rfl) rfl rfl ⟨hca, hcb, hcell2⟩ (fun hHeld => ?_)
  refine take_ (i := 0) (N := some 6) (v := ?_) (a' := ?_) #[true, false, false, false, false, false, false, false, false, false, false, false, false, false, false, false, false] rfl rfl (by kernel_rfl) (fun _ _ _ h => h) (Or.inl ⟨by rfl, ?_⟩) hHeld ?_ ?_
  rotate_left
  · rintro w' ⟨s0, s1, s2⟩
    go_simp
    with_reducible rfl
  rotate_left
  · simp only [Act.put, List.setIfInBounds_toArray, List.set_cons_zero, List.set_cons_succ, i64_w, i32_w]
    rfl
  refine one_ (i := 1) (N := some 7) #[true, true, false, false, false, false, false, false, false, false, false, false, false, false, false, false, false] rfl rfl (by kernel_rfl) (by decide) (fun K hK => ?_)
  refine goes_ Try.func46 (by kernel_rfl) rfl #[.slice (some adm) lm.length cm] (by rfl) rfl rfl (by simp only [List.map_toArray, List.map_cons, List.map_nil]; rfl) ?_
  refine Calls.mono (HR.out _ hb2.drew) ?_
  rintro e w2 ⟨rfl, hb⟩
  refine ⟨_, rfl, ?_⟩
  refine hK.out _ _ ⟨(hb.cell (p := ⟨w.heap.size, 0, none⟩) (by simp; omega)).trans hca, (hb.cell (p := ⟨w.heap.size + 1, 0, none⟩) (by simp)).trans hcb, (hb.cell (p := adm) (by simp; omega)).trans hcell2⟩ (fun hHeld => ?_)
  clear hK K
  refine norm_ (a' := ?_) ?_ ?_
  rotate_left
  · show Act.put _ (some 7) _ = _
    simp only [Act.put, List.setIfInBounds_toArray, List.set_cons_zero, List.set_cons_succ, i64_w, i32_w]
    rfl
  refine pure_ (i := 2) (N := some 8) (v := ?_) (a' := ?_) #[true, true, true, false, false, false, false, false, false, false, false, false, false, false, false, false, false] rfl rfl (by kernel_rfl) (fun _ _ _ h => h) (Or.inl ⟨by rfl, ?_⟩) ?_ ?_
  rotate_left
  · intro w'
    go_simp
    with_reducible rfl
  rotate_left
  · simp only [Act.put, List.setIfInBounds_toArray, List.set_cons_zero, List.set_cons_succ, i64_w, i32_w]
    rfl
  refine pure_ (i := 3) (N := some 9) (v := ?_) (a' := ?_) #[true, true, true, true, false, false, false, false, false, false, false, false, false, false, false, false, false] rfl rfl (by kernel_rfl) (fun _ _ _ h => h) (Or.inl ⟨by rfl, ?_⟩) ?_ ?_
  rotate_left
  · intro w'
    go_simp
    with_reducible rfl
  rotate_left
  · simp only [Act.put, List.setIfInBounds_toArray, List.set_cons_zero, List.set_cons_succ, i64_w, i32_w]
    rfl
  refine take_ (i := 4) (N := some 10) (v := ?_) (a' := ?_) #[true, true, true, true, true, false, false, false, false, false, false, false, false, false, false, false, false] rfl rfl (by kernel_rfl) (fun _ _ _ h => h) (Or.inl ⟨by rfl, ?_⟩) hHeld ?_ ?_
  rotate_left
  · rintro w' ⟨s0, s1, s2⟩
    go_simp
    with_reducible rfl
  rotate_left
  · simp only [Act.put, List.setIfInBounds_toArray, List.set_cons_zero, List.set_cons_succ, i64_w, i32_w]
    rfl
  refine one_ (i := 5) (N := some 11) #[true, true, true, true, true, true, false, false, false, false, false, false, false, false, false, false, false] rfl rfl (by kernel_rfl) (by decide) (fun K hK => ?_)
  refine goes_ Try.func46 (by kernel_rfl) rfl #[.slice (some ado) lo.length co] (by rfl) rfl rfl (by simp only [List.map_toArray, List.map_cons, List.map_nil]; rfl) ?_
  refine Calls.mono (HR2.out _ (hb2.drew.trans (hb.mono (by simp; omega)))) ?_
  rintro e w3 ⟨rfl, hb3⟩
  refine ⟨_, rfl, ?_⟩
  refine hK.out _ _ ⟨(hb3.cell (p := ⟨w.heap.size, 0, none⟩) (by show w.heap.size < _; have := hb.size; simp at this; omega)).trans ((hb.cell (p := ⟨w.heap.size, 0, none⟩) (by simp; omega)).trans hca), (hb3.cell (p := ⟨w.heap.size + 1, 0, none⟩) (by show w.heap.size + 1 < _; have := hb.size; simp at this; omega)).trans ((hb.cell (p := ⟨w.heap.size + 1, 0, none⟩) (by simp)).trans hcb), (hb3.cell (p := adm) (by have := hb.size; simp at this; omega)).trans ((hb.cell (p := adm) (by simp; omega)).trans hcell2)⟩ (fun hHeld => ?_)
  clear hK K
  refine norm_ (a' := ?_) ?_ ?_
  rotate_left
  · show Act.put _ (some 11) _ = _
    simp only [Act.put, List.setIfInBounds_toArray, List.set_cons_zero, List.set_cons_succ, i64_w, i32_w]
    rfl
  refine pure_ (i := 6) (N := some 12) (v := ?_) (a' := ?_) #[true, true, true, true, true, true, true, false, false, false, false, false, false, false, false, false, false] rfl rfl (by kernel_rfl) (fun _ _ _ h => h) (Or.inl ⟨by rfl, ?_⟩) ?_ ?_
  rotate_left
  · intro w'
    go_simp
    with_reducible rfl
  rotate_left
  · simp only [Act.put, List.setIfInBounds_toArray, List.set_cons_zero, List.set_cons_succ, i64_w, i32_w]
    rfl
  refine pure_ (i := 7) (N := some 13) (v := ?_) (a' := ?_) #[true, true, true, true, true, true, true, true, false, false, false, false, false, false, false, false, false] rfl rfl (by kernel_rfl) (fun _ _ _ h => h) (Or.inl ⟨by rfl, ?_⟩) ?_ ?_
  rotate_left
  · intro w'
    go_simp
    with_reducible rfl
  rotate_left
  · simp only [Act.put, List.setIfInBounds_toArray, List.set_cons_zero, List.set_cons_succ, i64_w, i32_w]
    rfl
  refine pure_ (i := 8) (N := some 14) (v := ?_) (a' := ?_) #[true, true, true, true, true, true, true, true, true, false, false, false, false, false, false, false, false] rfl rfl (by kernel_rfl) (fun _ _ _ h => h) (Or.inl ⟨by rfl, ?_⟩) ?_ ?_
  rotate_left
  · intro w'
    go_simp
    with_reducible rfl
  rotate_left
  · simp only [Act.put, List.setIfInBounds_toArray, List.set_cons_zero, List.set_cons_succ, i64_w, i32_w]
    rfl
  refine take_ (i := 9) (N := some 15) (v := ?_) (a' := ?_) #[true, true, true, true, true, true, true, true, true, true, false, false, false, false, false, false, false] rfl rfl (by kernel_rfl) (fun _ _ _ h => h) (Or.inl ⟨by rfl, ?_⟩) hHeld ?_ ?_
  rotate_left
  · rintro w' ⟨s0, s1, s2⟩
    go_simp
    with_reducible rfl
  rotate_left
  · simp only [Act.put, List.setIfInBounds_toArray, List.set_cons_zero, List.set_cons_succ, i64_w, i32_w]
    rfl
  refine pure_ (i := 10) (N := some 16) (v := ?_) (a' := ?_) #[true, true, true, true, true, true, true, true, true, true, true, false, false, false, false, false, false] rfl rfl (by kernel_rfl) (fun _ _ _ h => h) (Or.inl ⟨by rfl, ?_⟩) ?_ ?_
  rotate_left
  · intro w'
    go_simp
    with_reducible rfl
  rotate_left
  · simp only [Act.put, List.setIfInBounds_toArray, List.set_cons_zero, List.set_cons_succ, i64_w, i32_w]
    rfl
  refine take_ (i := 11) (N := some 17) (v := ?_) (a' := ?_) #[true, true, true, true, true, true, true, true, true, true, true, true, false, false, false, false, false] rfl rfl (by kernel_rfl) (fun _ _ _ h => h) (Or.inl ⟨by rfl, ?_⟩) hHeld ?_ ?_
  rotate_left
  · rintro w' ⟨s0, s1, s2⟩
    go_simp
    with_reducible rfl
  rotate_left
  · simp only [Act.put, List.setIfInBounds_toArray, List.set_cons_zero, List.set_cons_succ, i64_w, i32_w]
    rfl
  refine pure_ (i := 12) (N := some 18) (v := ?_) (a' := ?_) #[true, true, true, true, true, true, true, true, true, true, true, true, true, false, false, false, false] rfl rfl (by kernel_rfl) (fun _ _ _ h => h) (Or.inl ⟨by rfl, ?_⟩) ?_ ?_
  rotate_left
  · intro w'
    go_simp
    with_reducible rfl
  rotate_left
  · simp only [Act.put, List.setIfInBounds_toArray, List.set_cons_zero, List.set_cons_succ, i64_w, i32_w]
    rfl
  refine take_ (i := 13) (N := some 19) (v := ?_) (a' := ?_) #[true, true, true, true, true, true, true, true, true, true, true, true, true, true, false, false, false] rfl rfl (by kernel_rfl) (fun _ _ _ h => h) (Or.inl ⟨by rfl, ?_⟩) hHeld ?_ ?_
  rotate_left
  · rintro w' ⟨s0, s1, s2⟩
    go_simp
    with_reducible rfl
  rotate_left
  · simp only [Act.put, List.setIfInBounds_toArray, List.set_cons_zero, List.set_cons_succ, i64_w, i32_w]
    rfl
  refine pure_ (i := 14) (N := some 20) (v := ?_) (a' := ?_) #[true, true, true, true, true, true, true, true, true, true, true, true, true, true, true, false, false] rfl rfl (by kernel_rfl) (fun _ _ _ h => h) (Or.inl ⟨by rfl, ?_⟩) ?_ ?_
  rotate_left
  · intro w'
    go_simp
    with_reducible rfl
  rotate_left
  · simp only [Act.put, List.setIfInBounds_toArray, List.set_cons_zero, List.set_cons_succ, i64_w, i32_w]
    rfl
  refine pure_ (i := 15) (N := some 21) (v := ?_) (a' := ?_) #[true, true, true, true, true, true, true, true, true, true, true, true, true, true, true, true, false] rfl rfl (by kernel_rfl) (fun _ _ _ h => h) (Or.inl ⟨by rfl, ?_⟩) ?_ ?_
  rotate_left
  · intro w'
    go_simp
    with_reducible rfl
  rotate_left
  · simp only [Act.put, List.setIfInBounds_toArray, List.set_cons_zero, List.set_cons_succ, i64_w, i32_w]
    rfl
  refine pure_ (i := 16) (N := some 22) (v := ?_) (a' := ?_) #[true, true, true, true, true, true, true, true, true, true, true, true, true, true, true, true, true] rfl rfl (by kernel_rfl) (fun _ _ _ h => h) (Or.inl ⟨by rfl, ?_⟩) ?_ ?_
  rotate_left
  · intro w'
    go_simp
    with_reducible rfl
  rotate_left
  · simp only [Act.put, List.setIfInBounds_toArray, List.set_cons_zero, List.set_cons_succ, i64_w, i32_w]
    rfl
  refine done_ (by kernel_rfl) ?_
  have hs2 := hb.size
  simp at hs2
  have hs3 := hb3.size
  have hB3 := (hb2.drew.trans (hb.mono (by simp; omega))).trans (hb3.mono (by omega))
  have hA3 : w3.cell? ⟨w.heap.size, 0, none⟩ = some (.slice (some adm) lm.length cm) := (hb3.cell (p := ⟨w.heap.size, 0, none⟩) (by show w.heap.size < _; omega)).trans ((hb.cell (p := ⟨w.heap.size, 0, none⟩) (by simp; omega)).trans hca)
  have hC3 : w3.cell? ⟨w.heap.size + 1, 0, none⟩ = some (.slice (some ado) lo.length co) := (hb3.cell (p := ⟨w.heap.size + 1, 0, none⟩) (by show w.heap.size + 1 < _; omega)).trans ((hb.cell (p := ⟨w.heap.size + 1, 0, none⟩) (by simp)).trans hcb)
  have hD3 : w3.cell? ado = some (.slice A3 r3.length c3) := (hB3.cell hlto).trans hcello
  clear hca hcb hcell2 hcello2
  go_wp2
  refine start_ (n := 10) (S := fun w' => w'.cell? ⟨w.heap.size, 0, none⟩ = some (.slice (some adm) lm.length cm) ∧ w'.cell? ⟨w.heap.size + 1, 0, none⟩ = some (.slice (some ado) lo.length co) ∧ w'.cell? ado = some (.slice A3 r3.length c3)) (ds := [7]) #[false, false, false, false, false, false, false, false, false, false] (by kernel_rfl) rfl rfl ⟨hA3, hC3, hD3⟩ (fun hHeld => ?_)
  refine pure_ (i := 6) (N := some 29) (v := ?_) (a' := ?_) #[false, false, false, false, false, false, true, false, false, false] rfl rfl (by kernel_rfl) (fun _ _ _ h => h) (Or.inl ⟨by rfl, ?_⟩) ?_ ?_
  rotate_left
  · intro w'
    go_simp
    with_reducible rfl
  rotate_left
  · simp only [Act.put, List.setIfInBounds_toArray, List.set_cons_zero, List.set_cons_succ, i64_w, i32_w]
    rfl
  refine take_ (i := 0) (N := some 23) (v := ?_) (a' := ?_) #[true, false, false, false, false, false, true, false, false, false] rfl rfl (by kernel_rfl) (fun _ _ _ h => h) (Or.inl ⟨by rfl, ?_⟩) hHeld ?_ ?_
  rotate_left
  · rintro w' ⟨s0, s1, s2⟩
    go_simp
    with_reducible rfl
  rotate_left
  · simp only [Act.put, List.setIfInBounds_toArray, List.set_cons_zero, List.set_cons_succ, i64_w, i32_w]
    rfl
  refine pure_ (i := 1) (N := some 24) (v := ?_) (a' := ?_) #[true, true, false, false, false, false, true, false, false, false] rfl rfl (by kernel_rfl) (fun _ _ _ h => h) (Or.inl ⟨by rfl, ?_⟩) ?_ ?_
  rotate_left
  · intro w'
    go_simp
    with_reducible rfl
  rotate_left
  · simp only [Act.put, List.setIfInBounds_toArray, List.set_cons_zero, List.set_cons_succ, i64_w, i32_w]
    rfl
  refine take_ (i := 2) (N := some 25) (v := ?_) (a' := ?_) #[true, true, true, false, false, false, true, false, false, false] rfl rfl (by kernel_rfl) (fun _ _ _ h => h) (Or.inl ⟨by rfl, ?_⟩) hHeld ?_ ?_
  rotate_left
  · rintro w' ⟨s0, s1, s2⟩
    go_simp
    with_reducible rfl
  rotate_left
  · simp only [Act.put, List.setIfInBounds_toArray, List.set_cons_zero, List.set_cons_succ, i64_w, i32_w]
    rfl
  refine pure_ (i := 3) (N := some 26) (v := ?_) (a' := ?_) #[true, true, true, true, false, false, true, false, false, false] rfl rfl (by kernel_rfl) (fun _ _ _ h => h) (Or.inl ⟨by rfl, ?_⟩) ?_ ?_
  rotate_left
  · intro w'
    go_simp
    with_reducible rfl
  rotate_left
  · simp only [Act.put, List.setIfInBounds_toArray, List.set_cons_zero, List.set_cons_succ, i64_w, i32_w]
    rfl
  refine take_ (i := 4) (N := some 27) (v := ?_) (a' := ?_) #[true, true, true, true, true, false, true, false, false, false] rfl rfl (by kernel_rfl) (fun _ _ _ h => h) (Or.inl ⟨by rfl, ?_⟩) hHeld ?_ ?_
  rotate_left
  · rintro w' ⟨s0, s1, s2⟩
    go_simp
    with_reducible rfl
  rotate_left
  · simp only [Act.put, List.setIfInBounds_toArray, List.set_cons_zero, List.set_cons_succ, i64_w, i32_w]
    rfl
  refine pure_ (i := 5) (N := some 28) (v := ?_) (a' := ?_) #[true, true, true, true, true, true, true, false, false, false] rfl rfl (by kernel_rfl) (fun _ _ _ h => h) (Or.inl ⟨by rfl, ?_⟩) ?_ ?_
  rotate_left
  · intro w'
    go_simp
    with_reducible rfl
  rotate_left
  · simp only [Act.put, List.setIfInBounds_toArray, List.set_cons_zero, List.set_cons_succ, i64_w, i32_w]
    rfl
  refine last_ (i := 7) (N := some 30) #[true, true, true, true, true, true, true, true, false, false] rfl rfl (by kernel_rfl) (by decide) (fun K hK => ?_)
  refine goes_ Try.func42 (by kernel_rfl) rfl #[.int .i64 lm.length, .int .i64 r3.length, .func (.func 57) #[] #[.pointer (some ⟨w.heap.size + 1, 0, none⟩), .pointer (some ⟨w.heap.size, 0, none⟩)]] (by rfl) rfl rfl (by simp only [List.map_toArray, List.map_cons, List.map_nil]; rfl) ?_
  refine Calls.mono (HM.out _ _ _ hB3.drew hA3 hC3) ?_
  rintro e w4 ⟨v4, rfl, hS4, hb4⟩
  refine ⟨_, rfl, ?_⟩
  refine hK.out _ _ ?_
  clear hK K
  refine norm_ (a' := ?_) ?_ ?_
  rotate_left
  · show Act.put _ (some 30) _ = _
    simp only [Act.put, List.setIfInBounds_toArray, List.set_cons_zero, List.set_cons_succ, i64_w, i32_w]
    rfl
  refine pure_ (i := 8) (N := some 4) (v := ?_) (a' := ?_) #[true, true, true, true, true, true, true, true, true, false] rfl rfl (by kernel_rfl) (fun _ _ _ h => h) (Or.inl ⟨by rfl, ?_⟩) ?_ ?_
  rotate_left
  · intro w'
    go_simp
    with_reducible rfl
  rotate_left
  · simp only [Act.put, List.setIfInBounds_toArray, List.set_cons_zero, List.set_cons_succ, i64_w, i32_w]
    rfl
  refine pure_ (i := 9) (N := some 5) (v := ?_) (a' := ?_) #[true, true, true, true, true, true, true, true, true, true] rfl rfl (by kernel_rfl) (fun _ _ _ h => h) (Or.inl ⟨by rfl, ?_⟩) ?_ ?_
  rotate_left
  · intro w'
    go_simp
    with_reducible rfl
  rotate_left
  · simp only [Act.put, List.setIfInBounds_toArray, List.set_cons_zero, List.set_cons_succ, i64_w, i32_w]
    rfl
  refine done_ (by kernel_rfl) ?_
  go_wp2
  go_ret2
  exact ⟨_, rfl, Kd.S_lower hS4 (by simp; omega), hB3.drew.trans (hb4.mono (by simp; omega))⟩
end Go.Proofs.Ytjolnjckgoilpaa.Gf
