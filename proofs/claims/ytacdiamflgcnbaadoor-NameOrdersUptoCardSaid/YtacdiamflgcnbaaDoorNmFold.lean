/-
  The walks of Fold, the program's and the reference's.
-/
import Derived.Test.YtacdiamflgcnbaaDoorNmRow
set_option linter.unusedVariables false
set_option linter.unusedSimpArgs false
namespace Go.Proofs.YtacdiamflgcnbaaDoor.Nm
open Go.RowKit
theorem toNat_lt (c : UInt8) : c.toNat < 256 := c.toNat_lt
def foldB (c : UInt8) : UInt8 := if 65 ≤ c.toNat ∧ c.toNat ≤ 90 then c + 32 else c
theorem foldB_pos {c : UInt8} (h : 65 ≤ c.toNat ∧ c.toNat ≤ 90) : foldB c = c + 32 := if_pos h
theorem foldB_neg {c : UInt8} (h : ¬ (65 ≤ c.toNat ∧ c.toNat ≤ 90)) : foldB c = c := if_neg h
def upto (l : List UInt8) (i : Nat) : List UInt8 := (l.take i).map foldB ++ l.drop i
theorem upto_length (l : List UInt8) (i : Nat) : (upto l i).length = l.length := by simp [upto]; omega
theorem upto_at (l : List UInt8) (i : Nat) (h : i < l.length) : (upto l i)[i]'(by rw [upto_length]; exact h) = l[i] := by
  simp only [upto]
  rw [List.getElem_append_right (by simp; omega)]
  simp
  congr 1
  omega
theorem upto_set (l : List UInt8) (i : Nat) (h : i < l.length) : (upto l i).set i (foldB l[i]) = upto l (i + 1) := by
  simp only [upto]
  rw [List.set_append_right _ _ (by simp; omega)]
  have e : i - (List.map foldB (List.take i l)).length = 0 := by simp; omega
  rw [e, List.drop_eq_getElem_cons h, List.set_cons_zero, List.take_add_one, List.map_append, List.getElem?_eq_getElem h]
  simp
theorem upto_same (l : List UInt8) (i : Nat) (h : i < l.length) (e : foldB l[i] = l[i]) : upto l i = upto l (i + 1) := by
  rw [← upto_set l i h, e]
  have h2 : i < (upto l i).length := by rw [upto_length]; exact h
  have := List.set_getElem_self h2
  rw [upto_at l i h] at this
  exact this.symm
theorem upto_all (l : List UInt8) : upto l l.length = l.map foldB := by simp [upto]
def foldF (a0 : ByteArray) : Option ByteArray := if a0.size ≤ 140737488351232 then some ⟨(a0.data.toList.map foldB).toArray⟩ else none
set_option maxRecDepth 100000 in
set_option maxHeartbeats 2000000 in
theorem fold13 (s : ByteArray) (w : World) (hs : s.size ≤ 140737488351232) :
    Calls Tryd.prog 13 #[.string s] w fun e w' => e = .returned (.string ⟨(s.data.toList.map foldB).toArray⟩) ∧ Below w.heap.size w w' := by
  obtain ⟨cp, hconv, hR⟩ := conv w s hs
  have hb0 : Below w.heap.size w (w.drew.alloc (.cells (bytesRow s cp) 5 ((bytesRow s cp).size, (bytesRow s cp).size + 1))) := (Below.refl _ w).drew.alloc (Nat.le_refl _) _
  have hz : s.data.toList.length = s.size := Array.length_toList
  generalize w.drew.alloc (.cells (bytesRow s cp) 5 ((bytesRow s cp).size, (bytesRow s cp).size + 1)) = w1 at *
  generalize hl : s.data.toList = l at *
  go_enter Tryd.func13, Tryd.ntmps13
  go_wp2
  clear hconv
  go_loopw [10] (fun v wr => ∃ i : Nat, i ≤ s.size ∧ v = .int .i64 (i : Nat) ∧ Row wr w.heap.size cp (upto l i) ∧ Below w.heap.size w wr) (fun v _ => s.size - (intOf v).toNat)
  case atStart => exact ⟨0, Nat.zero_le _, rfl, by simpa [upto] using hR, hb0⟩
  case round =>
    clear hR hb0
    obtain ⟨i, hi, rfl, hR, hB⟩ := hrel
    by_cases hlt : i < s.size
    · have hli : i < l.length := by omega
      have cel := hR.cell i (by rw [upto_length]; exact hli)
      rw [upto_at l i hli] at cel
      have fro := hR.frozen i (by have := hR.le; rw [upto_length] at this; omega)
      have q1 : (0 : Int) ≤ (i : Int) := by omega
      have q2 : (i : Int) < (s.size : Int) := by omega
      have hbx := toNat_lt l[i]
      have hst := fun b => hR.stored i (by rw [upto_length]; exact hli) b
      have hset := upto_set l i hli
      have hsame := upto_same l i hli
      generalize hc : l[i] = c at *
      clear hc
      by_cases hc : 65 ≤ c.toNat ∧ c.toNat ≤ 90
      · have e1 : (foldB c).toNat = c.toNat + 32 := by
          rw [foldB_pos hc, UInt8.toNat_add]
          show (c.toNat + 32) % 256 = _
          omega
        have hv : (c.toNat : Int) + 97 - 65 = ((foldB c).toNat : Int) := by omega
        have q3 : (65 : Int) ≤ (c.toNat : Int) := by omega
        have q4 : (c.toNat : Int) ≤ 90 := by omega
        have hst1 := hst (foldB c)
        rw [hset, ← hv] at hst1
        clear hst hset hsame hv e1
        go_wp2
        go_roundw
        case rel => exact ⟨i + 1, by omega, by go_num, hst1, hB.setCell (Nat.le_refl _) _⟩
        case measure => simp [intOf]; omega
      · have hs2 := hsame (foldB_neg hc)
        rw [hs2] at hR
        clear hst hset hsame hs2
        by_cases q3 : (65 : Int) ≤ (c.toNat : Int)
        · have q4 : ¬ (c.toNat : Int) ≤ 90 := by omega
          go_wp2
          go_roundw
          case rel => exact ⟨i + 1, by omega, by go_num, hR, hB⟩
          case measure => simp [intOf]; omega
        · go_wp2
          go_roundw
          case rel => exact ⟨i + 1, by omega, by go_num, hR, hB⟩
          case measure => simp [intOf]; omega
    · obtain rfl : i = s.size := by omega
      have hba := hR.back
      rw [← hz, upto_all, List.length_map, hz] at hba
      go_wp2
      go_ret
      exact ⟨rfl, hB⟩
set_option maxRecDepth 100000 in
set_option maxHeartbeats 2000000 in
theorem fold14 (s : ByteArray) (w : World) (hs : s.size ≤ 140737488351232) :
    Calls Tryd.prog 14 #[.string s] w fun e w' => e = .returned (.string ⟨(s.data.toList.map foldB).toArray⟩) ∧ Below w.heap.size w w' := by
  obtain ⟨cp, hconv, hR⟩ := conv w s hs
  have hb0 : Below w.heap.size w (w.drew.alloc (.cells (bytesRow s cp) 5 ((bytesRow s cp).size, (bytesRow s cp).size + 1))) := (Below.refl _ w).drew.alloc (Nat.le_refl _) _
  have hz : s.data.toList.length = s.size := Array.length_toList
  generalize w.drew.alloc (.cells (bytesRow s cp) 5 ((bytesRow s cp).size, (bytesRow s cp).size + 1)) = w1 at *
  generalize hl : s.data.toList = l at *
  go_enter Tryd.func14, Tryd.ntmps14
  go_wp2
  clear hconv
  go_loopw [4] (fun v wr => ∃ i : Nat, i ≤ s.size ∧ v = .int .i64 (i : Nat) ∧ Row wr w.heap.size cp (upto l i) ∧ Below w.heap.size w wr) (fun v _ => s.size - (intOf v).toNat)
  case atStart => exact ⟨0, Nat.zero_le _, rfl, by simpa [upto] using hR, hb0⟩
  case round =>
    clear hR hb0
    obtain ⟨i, hi, rfl, hR, hB⟩ := hrel
    by_cases hlt : i < s.size
    · have hli : i < l.length := by omega
      have cel := hR.cell i (by rw [upto_length]; exact hli)
      rw [upto_at l i hli] at cel
      have fro := hR.frozen i (by have := hR.le; rw [upto_length] at this; omega)
      have q1 : (0 : Int) ≤ (i : Int) := by omega
      have q2 : (i : Int) < (s.size : Int) := by omega
      have hbx := toNat_lt l[i]
      have hst := fun b => hR.stored i (by rw [upto_length]; exact hli) b
      have hset := upto_set l i hli
      have hsame := upto_same l i hli
      generalize hc : l[i] = c at *
      clear hc
      by_cases hc : 65 ≤ c.toNat ∧ c.toNat ≤ 90
      · have e1 : (foldB c).toNat = c.toNat + 32 := by
          rw [foldB_pos hc, UInt8.toNat_add]
          show (c.toNat + 32) % 256 = _
          omega
        have hv : (c.toNat : Int) + 32 = ((foldB c).toNat : Int) := by omega
        have q3 : (65 : Int) ≤ (c.toNat : Int) := by omega
        have q4 : (c.toNat : Int) ≤ 90 := by omega
        have hst1 := hst (foldB c)
        rw [hset, ← hv] at hst1
        clear hst hset hsame hv e1
        go_wp2
        go_roundw
        case rel => exact ⟨i + 1, by omega, by go_num, hst1, hB.setCell (Nat.le_refl _) _⟩
        case measure => simp [intOf]; omega
      · have hs2 := hsame (foldB_neg hc)
        rw [hs2] at hR
        clear hst hset hsame hs2
        by_cases q3 : (65 : Int) ≤ (c.toNat : Int)
        · have q4 : ¬ (c.toNat : Int) ≤ 90 := by omega
          go_wp2
          go_roundw
          case rel => exact ⟨i + 1, by omega, by go_num, hR, hB⟩
          case measure => simp [intOf]; omega
        · go_wp2
          go_roundw
          case rel => exact ⟨i + 1, by omega, by go_num, hR, hB⟩
          case measure => simp [intOf]; omega
    · obtain rfl : i = s.size := by omega
      have hba := hR.back
      rw [← hz, upto_all, List.length_map, hz] at hba
      go_wp2
      go_ret
      exact ⟨rfl, hB⟩

def name_Fold.f (a0 : ByteArray) : Option ByteArray := foldF a0
theorem name_Fold.calls (a0 : ByteArray) (r : ByteArray) (w : World) (h : name_Fold.f a0 = some r) :
    Calls Tryd.prog 13 #[.string a0] w fun e w' => e = .returned (.string r) ∧ Below w.heap.size w w' := by
  unfold name_Fold.f foldF at h
  split at h
  · cases h; exact fold13 a0 w (by assumption)
  · cases h
def flintref2_Fold.f (a0 : ByteArray) : Option ByteArray := foldF a0
theorem flintref2_Fold.calls (a0 : ByteArray) (r : ByteArray) (w : World) (h : flintref2_Fold.f a0 = some r) :
    Calls Tryd.prog 14 #[.string a0] w fun e w' => e = .returned (.string r) ∧ Below w.heap.size w w' := by
  unfold flintref2_Fold.f foldF at h
  split at h
  · cases h; exact fold14 a0 w (by assumption)
  · cases h
end Go.Proofs.YtacdiamflgcnbaaDoor.Nm
