/-
  slices.IndexFunc and slices.ContainsFunc at rows of bytes and at whole numbers: whatever the predicate is, as long as its call leaves old memory alone. gf.Right by them.
-/
import Derived.Test.YtjolnjckgoilpaaGfMade
namespace Go.Proofs.Ytjolnjckgoilpaa.Gf
open Go.RowKit Go.Proofs.YtjolnjckgoilpaaW.PrintWords

abbrev KB : Kd Int := Kd.int .u8
abbrev KR : Kd (List Int) := Kd.slice 5 (Kd.int .u8)
def row (l : List (List Int)) (i : Nat) : List Int := l.getD i []

theorem rows_at {w : World} {A : Option Addr} {n : Nat} {l : List (List Int)} (h : KR.C w A n l) {i : Nat} (hi : i < n) :
    ∃ ad A' c', A = some ad ∧ w.cell? (ad.add i) = some (.slice A' (row l i).length c') ∧ (row l i).length ≤ c' ∧ KB.C w A' (row l i).length (row l i) := by
  obtain ⟨ad, c, e, _, hK, hc⟩ := Kd.C_get h ([] : List Int) (i : Int) (by omega) (by omega)
  obtain ⟨A', c', rfl, h1, h2⟩ := hK
  refine ⟨ad, A', c', e, ?_, h1, h2⟩
  have := hc 0 _ rfl
  rwa [show KR.sz = 1 from rfl, Nat.mul_one, Nat.add_zero, Int.toNat_natCast] at this

def firstIdx (n : Nat) (p : Nat → Bool) : Int := match (List.range n).find? p with | some i => (i : Int) | none => -1
theorem firstIdx_at {n k : Nat} {p : Nat → Bool} (hk : k < n) (hp : p k = true) (h : ∀ q, q < k → p q = false) : firstIdx n p = k := by
  have : (List.range n).find? p = some k := by
    rw [List.find?_eq_some_iff_getElem]
    refine ⟨hp, k, by simpa using hk, by simp, fun q hq => ?_⟩
    simp [h q hq]
  simp [firstIdx, this]
theorem firstIdx_none {n : Nat} {p : Nat → Bool} (h : ∀ q, q < n → p q = false) : firstIdx n p = -1 := by
  have : (List.range n).find? p = none := by
    rw [List.find?_eq_none]
    intro q hq
    simp [h q (by simpa using hq)]
  simp [firstIdx, this]
theorem firstIdx_any (n : Nat) (p : Nat → Bool) : decide (0 ≤ firstIdx n p) = (List.range n).any p := by
  cases h : (List.range n).find? p with
  | none =>
    have h2 : (List.range n).any p = false := by
      rw [List.any_eq_false]
      intro q hq
      have := List.find?_eq_none.1 h q hq
      simpa using this
    simp [firstIdx, h, h2]
  | some k =>
    have h2 : (List.range n).any p = true := by
      rw [List.any_eq_true]
      exact ⟨k, List.mem_of_find?_eq_some h, List.find?_some h⟩
    simp [firstIdx, h, h2]

set_option maxHeartbeats 1000000 in
theorem index50 (w : World) (A : Option Addr) (c : Nat) (l : List (List Int)) (g : Nat) (caps : Array Value) (p : Nat → Bool)
    (hC : KR.C w A l.length l) (he : ∀ (args : Array Value) (w : World), (callFunc g args).run Try.prog w = .ok (.enter g args) w)
    (hf : ∀ i, i < l.length → ∀ A' c' W, Below w.heap.size w W → KB.C W A' (row l i).length (row l i) → (row l i).length ≤ c' → Calls Try.prog g (#[.slice A' (row l i).length c'] ++ caps) W fun e W' => e = .returned (.bool (p i)) ∧ Below W.heap.size W W') :
    Calls Try.prog 49 #[.slice A l.length c, .func (.func g) #[] caps] w fun e w' => e = .returned (.int .i64 (firstIdx l.length p)) ∧ Below w.heap.size w w' := by
  have hmax := Kd.C_max hC
  go_enter Try.func49, Try.ntmps49
  go_wp2
  go_loopw [8] (fun i wr => ∃ k : Nat, k ≤ l.length ∧ i = .int .i64 (k : Nat) ∧ (∀ q, q < k → p q = false) ∧ Below w.heap.size w wr) (fun i _ => l.length - (intOf i).toNat)
  case atStart => exact ⟨0, Nat.zero_le _, rfl, fun q hq => by omega, Below.refl _ _⟩
  case round =>
    obtain ⟨k, hk, rfl, hno, hB⟩ := hrel
    by_cases hlt : k < l.length
    · obtain ⟨ad, A', c', rfl, hcell, hle, hI⟩ := rows_at (Kd.C_below hC hB) hlt
      have HN : Hid (∀ q, q < k → p q = false) := hno
      clear hno
      have q1 : (0 : Int) ≤ (k : Int) := by omega
      have q2 : (k : Int) < (l.length : Int) := by omega
      have hcall := hf k hlt A' c' wr hB hI hle
      by_cases hp : p k = true
      · rw [hp] at hcall
        go_wp2_with (refine hcall.mono ?_; rintro e w2 ⟨rfl, hb⟩)
        go_ret
        exact ⟨by rw [firstIdx_at hlt hp HN.out]; rfl, hB.trans (hb.mono hB.size)⟩
      · have hp2 : p k = false := by simpa using hp
        rw [hp2] at hcall
        go_wp2_with (refine hcall.mono ?_; rintro e w2 ⟨rfl, hb⟩)
        go_roundw
        case rel => exact ⟨k + 1, by omega, by go_num, fun q hq => by
          by_cases e : q = k
          · rw [e]; exact hp2
          · exact HN.out q (by omega), hB.trans (hb.mono hB.size)⟩
        case measure => simp [intOf]; omega
    · obtain rfl : k = l.length := by omega
      have HN : Hid (∀ q, q < l.length → p q = false) := hno
      clear hno
      go_wp2
      go_ret
      exact ⟨by rw [firstIdx_none HN.out]; rfl, hB⟩
theorem contains43 (w : World) (A : Option Addr) (c : Nat) (l : List (List Int)) (g : Nat) (caps : Array Value) (p : Nat → Bool)
    (hC : KR.C w A l.length l) (he : ∀ (args : Array Value) (w : World), (callFunc g args).run Try.prog w = .ok (.enter g args) w)
    (hf : ∀ i, i < l.length → ∀ A' c' W, Below w.heap.size w W → KB.C W A' (row l i).length (row l i) → (row l i).length ≤ c' → Calls Try.prog g (#[.slice A' (row l i).length c'] ++ caps) W fun e W' => e = .returned (.bool (p i)) ∧ Below W.heap.size W W') :
    Calls Try.prog 67 #[.slice A l.length c, .func (.func g) #[] caps] w fun e w' => e = .returned (.bool ((List.range l.length).any p)) ∧ Below w.heap.size w w' := by
  have h := index50 w A c l g caps p hC he hf
  have HA : Hid (decide (0 ≤ firstIdx l.length p) = (List.range l.length).any p) := firstIdx_any l.length p
  go_enter Try.func67, Try.ntmps67
  go_wp2_with (go_at_call 49; refine h.mono ?_; rintro e w2 ⟨rfl, hb⟩)
  go_ret
  exact ⟨by rw [← HA.out]; rfl, hb⟩

/-! the same at whole numbers -/
/-- May a matrix be? -/
def rightB (l : List (List Int)) : Bool := decide (1 ≤ l.length) && (decide (l.length ≤ 255) && (decide (1 ≤ (row l 0).length) && (decide ((row l 0).length ≤ 255) && !((List.range l.length).any fun i => decide ((row l i).length ≠ (row l 0).length)))))

set_option maxHeartbeats 1000000 in
theorem right44 (w : World) (l : List (List Int)) (A A' : Option Addr) (c c' n b : Nat) (hC : KR.C w A l.length l) (hb : w.cell? ⟨b, 0, none⟩ = some (.slice A l.length c)) (h0 : 0 < l.length) :
    Calls Try.prog 68 #[.slice A' n c', .pointer (some ⟨b, 0, none⟩)] w fun e w' => e = .returned (.bool (decide (n ≠ (row l 0).length))) ∧ Below w.heap.size w w' := by
  obtain ⟨ad, A2, c2, rfl, hcell, hle, hI⟩ := rows_at hC h0
  rw [Addr.add_zero'] at hcell
  generalize row l 0 = r at *
  have q : (0 : Int) < (l.length : Int) := by omega
  by_cases e : n = r.length
  · subst e
    go_enter Try.func68, Try.ntmps68
    go_wp2
    go_ret
    exact ⟨by simp, Below.refl _ _⟩
  · have e2 : ((n : Int) != (r.length : Int)) = true := by simp; omega
    go_enter Try.func68, Try.ntmps68
    go_wp2
    go_ret
    exact ⟨by simp [e], Below.refl _ _⟩
theorem below1 (w : World) (o : Obj) : Below w.heap.size w (w.alloc o) := (Below.refl _ _).alloc (Nat.le_refl _) o
set_option maxHeartbeats 2000000 in
theorem right27 (w : World) (l : List (List Int)) (A : Option Addr) (c : Nat) (hC : KR.C w A l.length l) :
    Calls Try.prog 46 #[.slice A l.length c] w fun e w' => e = .returned (.bool (rightB l)) ∧ Below w.heap.size w w' := by
  have HR : Hid (rightB l = (decide (1 ≤ l.length) && (decide (l.length ≤ 255) && (decide (1 ≤ (row l 0).length) && (decide ((row l 0).length ≤ 255) && !((List.range l.length).any fun i => decide ((row l i).length ≠ (row l 0).length))))))) := rfl
  by_cases h1 : l.length < 1
  · have b1 : decide ((l.length : Int) < 1) = true := by simp; omega
    go_enter Try.func46, Try.ntmps46
    go_wp2
    go_ret
    exact ⟨by rw [HR.out, decide_eq_false (by omega)]; rfl, below1 _ _⟩
  have b1 : decide ((l.length : Int) < 1) = false := by simp; omega
  by_cases h2 : 255 < l.length
  · have b2 : decide (255 < (l.length : Int)) = true := by simp; omega
    go_enter Try.func46, Try.ntmps46
    go_wp2
    go_ret
    exact ⟨by rw [HR.out, decide_eq_true (show 1 ≤ l.length by omega), decide_eq_false (show ¬ l.length ≤ 255 by omega)]; rfl, below1 _ _⟩
  have b2 : decide (255 < (l.length : Int)) = false := by simp; omega
  obtain ⟨ad, A2, c2, rfl, hcell, hle, hI⟩ := rows_at hC (show 0 < l.length by omega)
  rw [Addr.add_zero'] at hcell
  have hcell2 := pw_cell_below (below1 w (.cells #[.slice (some ad) l.length c] 46)) hcell
  have q : (0 : Int) < (l.length : Int) := by omega
  by_cases h3 : (row l 0).length < 1
  · have b3 : decide (((row l 0).length : Int) < 1) = true := by simp; omega
    have HR2 : Hid (rightB l = false) := by
      show rightB l = false
      rw [HR.out, decide_eq_false (show ¬ 1 ≤ (row l 0).length by omega)]; simp
    generalize row l 0 = r at *
    go_enter Try.func46, Try.ntmps46
    go_wp2
    go_ret
    exact ⟨by rw [HR2.out]; rfl, below1 _ _⟩
  have b3 : decide (((row l 0).length : Int) < 1) = false := by simp; omega
  by_cases h4 : 255 < (row l 0).length
  · have b4 : decide (255 < ((row l 0).length : Int)) = true := by simp; omega
    have HR2 : Hid (rightB l = false) := by
      show rightB l = false
      rw [HR.out, decide_eq_false (show ¬ (row l 0).length ≤ 255 by omega)]; simp
    generalize row l 0 = r at *
    go_enter Try.func46, Try.ntmps46
    go_wp2
    go_ret
    exact ⟨by rw [HR2.out]; rfl, below1 _ _⟩
  have b4 : decide (255 < ((row l 0).length : Int)) = false := by simp; omega
  have HR2 : Hid (rightB l = !((List.range l.length).any fun i => decide ((row l i).length ≠ (row l 0).length))) := by
    show rightB l = _
    rw [HR.out, decide_eq_true (show 1 ≤ l.length by omega), decide_eq_true (show l.length ≤ 255 by omega), decide_eq_true (show 1 ≤ (row l 0).length by omega), decide_eq_true (show (row l 0).length ≤ 255 by omega)]; simp
  have hmf : ∀ (fn : Fn) (first cap : Array Value) (w : World), (Instr.makeFunc fn first cap).run Try.prog w = .ok (.func fn first cap) w := fun _ _ _ _ => rfl
  have hw1 : (w.alloc (.cells #[.slice (some ad) l.length c] 46)).cell? ⟨w.heap.size, 0, none⟩ = some (.slice (some ad) l.length c) := by
    rw [World.cell?_alloc_at _ _ _ _ rfl]; rfl
  have hcon := contains43 (w.alloc (.cells #[.slice (some ad) l.length c] 46)) (some ad) c l 68 #[.pointer (some ⟨w.heap.size, 0, none⟩)] (fun i => decide ((row l i).length ≠ (row l 0).length))
    (Kd.C_below hC (below1 _ _)) (Go.Proofs.enters_of Try.func68 (by kernel_rfl) rfl) (by
      intro i hi A' c' W hW hK hle'
      exact right44 W l (some ad) A' c c' (row l i).length w.heap.size (Kd.C_below hC ((below1 _ _).trans (hW.mono (by simp)))) ((hW.cell (p := ⟨w.heap.size, 0, none⟩) (by simp)).trans hw1) (by omega))
  have HR3 := HR2.out
  clear HR2
  generalize ((List.range l.length).any fun i => decide ((row l i).length ≠ (row l 0).length)) = B at hcon HR3
  have HR2 : Hid (rightB l = !B) := HR3
  have HC : Hid _ := hcon
  clear hcon HR HR3
  generalize row l 0 = r at *
  go_enter Try.func46, Try.ntmps46
  go_wp2_with (go_at_call 67; refine Calls.mono HC.out ?_; rintro e w2 ⟨rfl, hb⟩)
  go_ret
  exact ⟨by rw [HR2.out]; rfl, (below1 _ _).trans (hb.mono (by simp))⟩
end Go.Proofs.Ytjolnjckgoilpaa.Gf
