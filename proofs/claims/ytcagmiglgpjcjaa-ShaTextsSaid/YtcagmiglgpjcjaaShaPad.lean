/-
  A message's padding; a sum's bytes; rows of bytes.
-/
import Derived.Test.YtcagmiglgpjcjaaShaWr
set_option linter.unusedVariables false
set_option linter.unusedSimpArgs false
namespace Go.Proofs.Ytcagmiglgpjcjaa.Sh
open Go.RowKit Go.Proofs.YtcagmiglgpjcjaaW.PrintWords Go.Proofs.YtcagmiglgpjcjaaW.PrintLast Go.Proofs.YtcagmiglgpjcjaaW.PrintMore Go.Proofs.Ytcagmiglgpjcjaa.PSa

/-- A row of bytes. -/
def u8s (l : List Int) : Array Value := (l.map (Value.int .u8)).toArray
theorem u8s_size (l : List Int) : (u8s l).size = l.length := by simp [u8s]
theorem u8s_get (l : List Int) (j : Nat) : (u8s l)[j]? = l[j]?.map (Value.int .u8) := by simp [u8s]
theorem u8s_set (l : List Int) (j : Nat) (x : Int) : (u8s l).setIfInBounds j (.int .u8 x) = u8s (l.set j x) := by
  apply Array.ext_getElem?
  intro i
  simp only [u8s, Array.getElem?_setIfInBounds, List.getElem?_toArray, List.getElem?_map, List.getElem?_set, List.size_toArray, List.length_map]
  by_cases h : j = i
  · subst h
    by_cases h2 : j < l.length <;> simp [h2]
  · simp [h]
theorem u8s_one (l : List Int) : (u8s l).all (·.oneCell') = true := by
  rw [Array.all_eq_true_iff_forall_mem]
  intro v hv
  simp only [u8s, List.mem_toArray, List.mem_map] at hv
  obtain ⟨x, _, rfl⟩ := hv
  rfl
theorem at8_cell {w : World} {b : Nat} {t : TypeId} {l : List Int} (h : w.heap[b]? = some (.cells (u8s l) t (0, 0))) {i : Nat} (hi : i < l.length) : w.cell? ⟨b, i, none⟩ = some (.int .u8 (at32 l i)) := by
  rw [cell_of_row w b i _ t (0, 0) h, u8s_get, at32]
  simp [hi]
/-- A block of bytes, read whole. -/
theorem C_blk {w : World} {q : Nat} {t : TypeId} {fr : Nat × Nat} {l : List Int} (h : w.heap[q]? = some (.cells (u8s l) t fr)) (hl : l.length ≤ 9223372036854775807) : KBs.C w (some ⟨q, 0, none⟩) l.length l :=
  ⟨rfl, hl, fun _ => ⟨_, rfl, fun j p hj => ⟨[.int .u8 p], rfl, rfl, fun i u hu => by
    match i, hu with
    | 0, hu =>
      injection hu with hu
      subst hu
      rw [Addr.add_mid, cell_of_row w q _ _ t fr h, u8s_get]
      show l[0 + (j * 1 + 0)]?.map _ = _
      rw [show 0 + (j * 1 + 0) = j by omega, hj]
      rfl⟩⟩⟩
def z32 : List Int := List.replicate 32 0
theorem zero24 : (∀ w, (zeroValue 24).run Try.prog w = .ok (.agg (u8s z32)) w) ∧ (Try.prog.info? 24).map (·.size) = some 32 := zero_of_info (by kernel_rfl)
theorem zero25 : (∀ w, (zeroValue 25).run Try.prog w = .ok (.agg (u8s z32)) w) ∧ (Try.prog.info? 25).map (·.size) = some 32 := zero_of_info (by kernel_rfl)
/-- Byte i of a sum, out of its words. -/
def ob (h : List Int) (i : Nat) : Int := IntKind.u8.wrap (at32 h (i / 4) / 2 ^ (24 - 8 * (i % 4)))
def Os (h : List Int) : Nat → List Int
  | 0 => z32
  | i + 1 => (Os h i).set i (ob h i)
theorem Os_length (h : List Int) : ∀ i, (Os h i).length = 32
  | 0 => rfl
  | i + 1 => by simp [Os, Os_length h i]
/-- The bytes of a size. -/
def szs (n : Int) : Nat → List Int
  | 0 => []
  | k + 1 => szs n k ++ [IntKind.u8.wrap (n / 2 ^ (56 - 8 * k))]
theorem szs_length (n : Int) : ∀ k, (szs n k).length = k
  | 0 => rfl
  | k + 1 => by rw [szs, List.length_append, szs_length n k]; rfl
def padz (n : Nat) : Nat := (120 - (n + 1) % 64) % 64
def pad (t : List Int) : List Int := t ++ [128] ++ List.replicate (padz t.length) 0 ++ szs (8 * (t.length : Int)) 8
theorem pad_length (t : List Int) : (pad t).length = t.length + 9 + padz t.length := by simp [pad, szs_length]; omega
/-- The sum of a message. -/
def sum (t : List Int) : List Int := Os (dH (pad t) H0) 32
theorem sum_length (t : List Int) : (sum t).length = 32 := Os_length _ _
end Go.Proofs.Ytcagmiglgpjcjaa.Sh
