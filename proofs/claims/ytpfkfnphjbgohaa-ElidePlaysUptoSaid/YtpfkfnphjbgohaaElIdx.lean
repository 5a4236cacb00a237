/-
  slices.IndexFunc at rows of elisions, whatever the predicate is; clear of a row's end.
-/
import Derived.Test.YtpfkfnphjbgohaaElNew
import Derived.Lib.SliceRun
set_option linter.unusedVariables false
set_option linter.unusedSimpArgs false
namespace Go.Proofs.Ytpfkfnphjbgohaa.El
open Go.RowKit Go.Proofs.YtpfkfnphjbgohaaW.PrintWords Go.Proofs.YtpfkfnphjbgohaaW.PrintLast Go.Proofs.YtpfkfnphjbgohaaW.PrintMore Go.Proofs.Ytpfkfnphjbgohaa.PEa
attribute [local go_sem] binS_leq binS_gtr binS_geq max2_int min2_int max_two min_two maxS_two minS_two
/-- What a called function value says of an elision, and what it leaves alone. -/
def Says (Inv : World → Prop) (g : Nat) (caps : Array Value) (d : S27 → Bool) : Prop :=
  ∀ x W, Inv W → Calls Try.prog g (#[.agg #[.string x.f0, .string x.f1, .int .u64 x.f2]] ++ caps) W fun e W' => e = .returned (.bool (d x)) ∧ Below W.heap.size W W'
/-- The first one of which it says yes. -/
def fst27 (d : S27 → Bool) : List S27 → Nat → Option Nat
  | [], _ => none
  | x :: l, k => if d x = true then some k else fst27 d l (k + 1)
theorem fst27_at {d : S27 → Bool} : ∀ {l : List S27} {k i : Nat}, fst27 d l k = some i → ∃ j, i = k + j ∧ j < l.length ∧ d (rd_T27 l (j : Int)) = true ∧ ∀ q < j, d (rd_T27 l (q : Int)) = false
  | [], k, i, h => by cases h
  | x :: l, k, i, h => by
    rw [fst27] at h
    by_cases hx : d x = true
    · rw [if_pos hx] at h
      cases h
      exact ⟨0, rfl, by simp, hx, fun q hq => absurd hq (Nat.not_lt_zero _)⟩
    · rw [if_neg hx] at h
      obtain ⟨j, hj, h1, h2, h3⟩ := fst27_at h
      refine ⟨j + 1, by omega, by simp; omega, h2, fun q hq => ?_⟩
      rcases q with _ | q
      · show d x = false
        simpa using hx
      · exact h3 q (by omega)
theorem fst27_eq {d : S27 → Bool} : ∀ {l : List S27} {m k : Nat}, k < l.length → d (rd_T27 l (k : Int)) = true → (∀ q < k, d (rd_T27 l (q : Int)) = false) → fst27 d l m = some (m + k)
  | [], _, k, h, _, _ => absurd h (Nat.not_lt_zero _)
  | x :: l, m, k, h, h1, h2 => by
    rw [fst27]
    rcases k with _ | k
    · rw [if_pos (show d x = true from h1)]; rfl
    · rw [if_neg (by have := h2 0 (by omega); rw [show d (rd_T27 (x :: l) ((0 : Nat) : Int)) = d x from rfl] at this; rw [this]; decide), fst27_eq (k := k) (by simpa using h) h1 (fun q hq => h2 (q + 1) (by omega))]
      congr 1
      omega
theorem fst27_none {d : S27 → Bool} : ∀ {l : List S27} {m : Nat}, (∀ q < l.length, d (rd_T27 l (q : Int)) = false) → fst27 d l m = none
  | [], _, _ => rfl
  | x :: l, m, h => by
    rw [fst27, if_neg (by have := h 0 (by simp); rw [show d (rd_T27 (x :: l) ((0 : Nat) : Int)) = d x from rfl] at this; rw [this]; decide)]
    exact fst27_none (fun q hq => h (q + 1) (by simp; omega))
def idxI : Option Nat → Int
  | some k => k
  | none => -1
set_option maxHeartbeats 1000000 in
theorem index56 (w : World) (A : Option Addr) (c : Nat) (l : List S27) (g : Nat) (caps : Array Value) (d : S27 → Bool) (Inv : World → Prop)
    (hC : Kd.C k27 w A l.length l) (he : ∀ (args : Array Value) (w : World), (callFunc g args).run Try.prog w = .ok (.enter g args) w)
    (hI : Inv w) (hI1 : ∀ W W' : World, Inv W → Below W.heap.size W W' → Inv W') (hf : Says Inv g caps d) :
    Calls Try.prog 56 #[.slice A l.length c, .func (.func g) #[] caps] w fun e w' => e = .returned (.int .i64 (idxI (fst27 d l 0))) ∧ Below w.heap.size w w' := by
  have hmax := Kd.C_max hC
  obtain ⟨n, hn⟩ : ∃ n, l.length = n := ⟨_, rfl⟩
  rw [hn] at hC hmax ⊢
  have HC := Aside0.mk hC
  have HN := Aside0.mk hn
  have HI := Aside0.mk hI
  have HI1 := Aside0.mk hI1
  have HF := Aside0.mk hf
  clear hC hn hI hI1 hf
  go_enter Try.func56, Try.ntmps56
  go_wp2
  go_loopw [8] (fun i wr => ∃ k : Nat, k ≤ n ∧ i = .int .i64 (k : Nat) ∧ Aside0 (∀ q < k, d (rd_T27 l (q : Int)) = false) ∧ Aside0 (Below w.heap.size w wr)) (fun i _ => n - (intOf i).toNat)
  case atStart => exact ⟨0, Nat.zero_le _, rfl, ⟨fun q hq => absurd hq (Nat.not_lt_zero _)⟩, ⟨Below.refl _ _⟩⟩
  case round =>
    obtain ⟨k, hk, rfl, hno, HB⟩ := hrel
    by_cases hlt : k < n
    · clear hk
      obtain ⟨x, hx⟩ : ∃ x, rd_T27 l (k : Int) = x := ⟨_, rfl⟩
      obtain ⟨ad, eA, x0, x1, x2⟩ := at_T27 HC.out (k : Int) (by omega) (by omega)
      subst eA
      rw [hx] at x0 x1 x2
      rw [Int.toNat_natCast] at x0 x1 x2
      replace x0 := pw_cell_below HB.out x0
      replace x1 := pw_cell_below HB.out x1
      replace x2 := pw_cell_below HB.out x2
      have HX := Aside0.mk hx
      clear hx
      have hcall := HF.out x wr (HI1.out _ _ HI.out HB.out)
      by_cases hp : d x = true
      · rw [hp] at hcall
        have HE := Aside0.mk (show fst27 d l 0 = some k by rw [fst27_eq (m := 0) (by rw [HN.out]; exact hlt) (by rw [HX.out]; exact hp) hno.out, Nat.zero_add])
        clear hp
        go_wp2_with (refine hcall.mono ?_; rintro e w2 ⟨rfl, hb⟩)
        go_ret
        exact ⟨by rw [HE.out]; rfl, below_then HB.out HB.out.size hb⟩
      · have hp2 : d x = false := by simpa using hp
        rw [hp2] at hcall
        have HP := Aside0.mk hp2
        clear hp hp2
        go_wp2_with (refine hcall.mono ?_; rintro e w2 ⟨rfl, hb⟩)
        go_roundw
        case rel => exact ⟨k + 1, by omega, by go_num, ⟨fun q hq => by
          by_cases e : q = k
          · rw [e, HX.out]; exact HP.out
          · exact hno.out q (by omega)⟩, ⟨below_then HB.out HB.out.size hb⟩⟩
        case measure => simp [intOf]; omega
    · obtain rfl : k = n := by omega
      have HE := Aside0.mk (show fst27 d l 0 = none from fst27_none (by rw [HN.out]; exact hno.out))
      go_wp2
      go_ret
      exact ⟨by rw [HE.out]; rfl, HB.out⟩
/-! ### clear -/
def zz : Nat → List Value
  | 0 => []
  | m + 1 => .string ⟨#[]⟩ :: .string ⟨#[]⟩ :: .int .u64 0 :: zz m
theorem zz_len : ∀ m, (zz m).length = m * 3
  | 0 => rfl
  | m + 1 => by simp only [zz, List.length_cons, zz_len m]; omega
theorem zz_zero (m : Nat) : (Builtin.zeroCells #[.string ⟨#[]⟩, .string ⟨#[]⟩, .int .u64 0] m).toList = zz m := by
  have h : ∀ m, (List.range (m * 3)).map (fun i => (#[Value.string ⟨#[]⟩, .string ⟨#[]⟩, .int .u64 0] : Array Value)[i % 3]!) = zz m := by
    intro m
    induction m with
    | zero => rfl
    | succ m ih =>
      rw [show (m + 1) * 3 = 3 + m * 3 by omega, List.range_add, List.map_append, List.map_map, zz, ← ih]
      have : ((fun i => (#[Value.string ⟨#[]⟩, .string ⟨#[]⟩, .int .u64 0] : Array Value)[i % 3]!) ∘ (fun x => 3 + x)) = (fun i => (#[Value.string ⟨#[]⟩, .string ⟨#[]⟩, .int .u64 0] : Array Value)[i % 3]!) := by
        funext i
        simp only [Function.comp, Nat.add_mod_left]
      rw [this]
      rfl
  rw [← h m]
  simp [Builtin.zeroCells]
def wipe (xs : List S27) : Nat → Nat → List S27
  | _, 0 => xs
  | i, m + 1 => wipe (xs.set i ⟨⟨#[]⟩, ⟨#[]⟩, 0⟩) (i + 1) m
theorem wipe_len : ∀ (m i : Nat) (xs : List S27), (wipe xs i m).length = xs.length
  | 0, _, _ => rfl
  | m + 1, i, xs => by rw [wipe, wipe_len m, List.length_set]
theorem wipe_take : ∀ (m i k : Nat) (xs : List S27), k ≤ i → (wipe xs i m).take k = xs.take k
  | 0, _, _, _, _ => rfl
  | m + 1, i, k, xs, h => by
    rw [wipe, wipe_take m (i + 1) k _ (by omega)]
    exact List.take_set_of_le h
theorem R_wipe {base g n cap : Nat} {ok : Nat → Prop} : ∀ (m i : Nat) (W : World) (xs : List S27), Kd.R k27 27 W base ok (.slice (some ⟨g, 0, none⟩) n cap) xs → i + m ≤ n →
    Kd.R k27 27 (W.setCells g (i * 3) (zz m)) base ok (.slice (some ⟨g, 0, none⟩) n cap) (wipe xs i m) ∧ W.grownBy (W.setCells g (i * 3) (zz m)) (some g)
  | 0, i, W, xs, h, _ => ⟨h, World.grownBy.refl W _⟩
  | m + 1, i, W, xs, h, hi => by
    obtain ⟨c, hcl, hM, hcc, hfr⟩ := Kd.R_elem h z27 (i : Int) (by omega) (by omega)
    obtain rfl := k27_openM hM
    obtain ⟨h1, hg1⟩ := Kd.R_seg (seg := [.string ⟨#[]⟩, .string ⟨#[]⟩, .int .u64 0]) (j := 0) (x' := ⟨⟨#[]⟩, ⟨#[]⟩, 0⟩) (okp := fun _ => False) h (i : Int) (by omega) (by omega) hcl hcc (by show 0 + 3 ≤ 3; omega) (k27_mkM _ _ _ ⟨⟨#[]⟩, ⟨#[]⟩, 0⟩) (fun _ h => h.elim)
    rw [Int.toNat_natCast] at h1 hg1
    obtain ⟨h2, hg2⟩ := R_wipe m (i + 1) _ _ h1 (by omega)
    have e : ∀ W : World, W.setCells g (i * 3) (zz (m + 1)) = (W.setCells g (i * k27.sz + 0) [.string ⟨#[]⟩, .string ⟨#[]⟩, .int .u64 0]).setCells g ((i + 1) * 3) (zz m) := by
      intro W
      rw [show (i + 1) * 3 = i * 3 + 1 + 1 + 1 by omega]
      rfl
    rw [e, wipe]
    refine ⟨h2, hg2.os.trans hg1.os, hg2.tape.trans hg1.tape, hg2.output.trans hg1.output, Nat.le_trans hg1.size hg2.size, fun k hk hne => ?_⟩
    exact (hg2.block k (Nat.lt_of_lt_of_le hk hg1.size) hne).trans (hg1.block k hk hne)
theorem zz_one (m : Nat) : ∀ v ∈ zz m, v.oneCell' = true := by
  induction m with
  | zero => intro v hv; simp [zz] at hv
  | succ m ih =>
    intro v hv
    simp only [zz, List.mem_cons] at hv
    rcases hv with rfl | rfl | rfl | hv
    · rfl
    · rfl
    · rfl
    · exact ih v hv
theorem R_clear_run {base g n cap i : Nat} {ok : Nat → Prop} {W : World} {xs : List S27} (h : Kd.R k27 27 W base ok (.slice (some ⟨g, 0, none⟩) n cap) xs) (hi : i < n) (ty : TypeId) (c2 : Nat) :
    ∃ w1, (Builtin.clear_ #[22] ty #[.slice (some ⟨g, i * 3, none⟩) (n - i) c2]).run Try.prog W = .ok (.tuple #[]) w1 ∧ Kd.R k27 27 w1 base ok (.slice (some ⟨g, 0, none⟩) n cap) (wipe xs i (n - i)) ∧ W.grownBy w1 (some g) := by
  obtain ⟨h1, hg⟩ := R_wipe (n - i) i W xs h (by omega)
  refine ⟨_, ?_, h1, hg⟩
  have hcell : ∀ j, j < (n - i) * 3 → ∃ u, W.cell? ⟨g, i * 3 + 0 + j, none⟩ = some u ∧ W.frozen? ⟨g, i * 3 + 0 + j, none⟩ = false := by
    intro j hj
    obtain ⟨c, hcl, hM, hcc, hfr⟩ := Kd.R_elem h z27 ((i + j / 3 : Nat) : Int) (by omega) (by omega)
    have hcl3 : c.length = 3 := hcl
    have hj3 : j % 3 < c.length := by omega
    have e : ((i + j / 3 : Nat) : Int).toNat * k27.sz + j % 3 = i * 3 + 0 + j := by
      show ((i + j / 3 : Nat) : Int).toNat * 3 + j % 3 = i * 3 + 0 + j
      rw [Int.toNat_natCast]
      omega
    have h1 := hcc (j % 3) _ (List.getElem?_eq_getElem hj3)
    have h2 := hfr (j % 3)
    rw [e] at h1 h2
    exact ⟨_, h1, h2⟩
  have hst := run_storeCells_cells (P := Try.prog) g (i * 3) (zz (n - i)) 0 W (fun j hj => by
    rw [zz_len] at hj
    obtain ⟨u, h1, h2⟩ := hcell j hj
    rw [h1]; rfl) (fun j hj => by
    rw [zz_len] at hj
    obtain ⟨u, h1, h2⟩ := hcell j hj
    exact h2) (zz_one _)
  rw [Nat.add_zero] at hst
  have hz : ∀ w, (zeroValue 27).run Try.prog w = .ok (.agg #[.string ⟨#[]⟩, .string ⟨#[]⟩, .int .u64 0]) w := fun w => by kernel_rfl
  obtain ⟨m, hm⟩ : ∃ m, n - i = m + 1 := ⟨n - i - 1, by omega⟩
  rw [hm] at hst ⊢
  have hzc := zz_zero (m + 1)
  simp [Builtin.clear_, run_underlying Try.underlying22, hz, Value.cells, hzc, hst]
end Go.Proofs.Ytpfkfnphjbgohaa.El
