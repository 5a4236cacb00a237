/-
  A row of bytes of the call's own, of which no cell is frozen, whatever mark its block bears: made of a text, written, grown by one byte, read back as a text.
-/
import Derived.Test.YtacdiamflgcnbaaDoorProg
import Derived.WalkKit
import Derived.WalkSpells
import Derived.Laws.IdiomStrings
import Derived.Laws.AppendOwn
import Derived.Lib.UnsafeStr
import Derived.Deep.RegionHeld3
import Derived.Deep.DrawnRows
import Derived.Test.YtacdiamflgcnbaaDoorWApart
set_option linter.unusedVariables false
set_option linter.unusedSimpArgs false
namespace Go.Proofs.YtacdiamflgcnbaaDoor.Nm
open Go.RowKit

/-- The block g holds l at its front, has room for cp cells, none of them frozen. -/
structure Row (w : World) (g cp : Nat) (l : List UInt8) : Prop where
  blk : ∃ cur fz, w.heap[g]? = some (.cells cur 5 fz) ∧ cur.size = cp ∧ (cur.size ≤ fz.1 ∨ fz.2 = 0) ∧ cur.toList.take l.length = Lib.byteCells l
  le : l.length ≤ cp
  mx : cp ≤ maxLen
theorem heap_lt {w : World} {g : Nat} {o : Obj} (h : w.heap[g]? = some o) : g < w.heap.size := (Array.getElem?_eq_some_iff.1 h).1
theorem Row.lt {w : World} {g cp : Nat} {l : List UInt8} (h : Row w g cp l) : g < w.heap.size := by
  obtain ⟨cur, fz, h1, _⟩ := h.blk
  exact heap_lt h1
theorem byteCells_at (l : List UInt8) (j : Nat) (hj : j < l.length) : (Lib.byteCells l)[j]? = some (.int .u8 (l[j].toNat : Int)) := by simp [Lib.byteCells, hj]
theorem Row.cell {w : World} {g cp : Nat} {l : List UInt8} (h : Row w g cp l) (j : Nat) (hj : j < l.length) : w.cell? ⟨g, j, none⟩ = some (.int .u8 (l[j].toNat : Int)) := by
  obtain ⟨cur, fz, h1, _, _, h4⟩ := h.blk
  rw [cell_of_row w g j cur 5 fz h1, ← byteCells_at l j hj, ← h4, List.getElem?_take, if_pos hj]
  simp
theorem Row.frozen {w : World} {g cp : Nat} {l : List UInt8} (h : Row w g cp l) (j : Nat) (hj : j < cp) : w.frozen? ⟨g, j, none⟩ = false := by
  obtain ⟨cur, ⟨lo, hi⟩, h1, h2, h3, h4⟩ := h.blk
  simp only [World.frozen?, h1, Bool.and_eq_false_iff, decide_eq_false_iff_not]
  simp only at h3
  omega
theorem Row.kept {w w' : World} {g cp : Nat} {l : List UInt8} (h : Row w g cp l) (hg : w'.heap[g]? = w.heap[g]?) : Row w' g cp l := ⟨by rw [hg]; exact h.blk, h.le, h.mx⟩
theorem Row.below {w w' : World} {g cp : Nat} {l : List UInt8} (h : Row w g cp l) (hb : Below w.heap.size w w') : Row w' g cp l := h.kept (hb.block _ h.lt)
theorem byteCells_set (l : List UInt8) (j : Nat) (b : UInt8) : Lib.byteCells (l.set j b) = (Lib.byteCells l).set j (.int .u8 (b.toNat : Int)) := by
  simp [Lib.byteCells, List.map_set]
theorem Row.stored {w : World} {g cp : Nat} {l : List UInt8} (h : Row w g cp l) (j : Nat) (hj : j < l.length) (b : UInt8) : Row (w.setCell ⟨g, j, none⟩ (.int .u8 (b.toNat : Int))) g cp (l.set j b) := by
  obtain ⟨cur, fz, h1, h2, h3, h4⟩ := h.blk
  refine ⟨⟨cur.setIfInBounds j (.int .u8 (b.toNat : Int)), fz, ?_, by simp [h2], by simpa using h3, ?_⟩, by simpa using h.le, h.mx⟩
  · simp [World.setCell, Array.getElem?_modify, h1]
  · rw [byteCells_set, ← h4, List.length_set, Array.toList_setIfInBounds, List.take_set]
theorem Row.back {w : World} {g cp : Nat} {l : List UInt8} (h : Row w g cp l) : (convert 36 9 (.slice (some ⟨g, 0, none⟩) l.length cp)).run Tryd.prog w = .ok (.string ⟨l.toArray⟩) w := by
  refine run_convert_bytes_back w 36 9 5 ⟨g, 0, none⟩ cp l Tryd.underlying36 Tryd.underlying5 Tryd.underlying9 fun j hj => ?_
  have hadd : (⟨g, 0, none⟩ : Addr).add j = ⟨g, j, none⟩ := by unfold Addr.add; split <;> simp_all
  rw [hadd]
  exact h.cell j hj
theorem info5 : (Tryd.prog.info? 5).map (fun i => (i.zero, i.size, i.bytes)) = some (some (.int .u8 0), 1, 1) := by kernel_rfl
theorem conv (w : World) (s : ByteArray) (hs : s.size ≤ 140737488351232) : ∃ cp, (convert 9 36 (.string s)).run Tryd.prog w = .ok (.slice (some ⟨w.heap.size, 0, none⟩) s.size cp) (w.drew.alloc (.cells (bytesRow s cp) 5 ((bytesRow s cp).size, (bytesRow s cp).size + 1))) ∧
    Row (w.drew.alloc (.cells (bytesRow s cp) 5 ((bytesRow s cp).size, (bytesRow s cp).size + 1))) w.heap.size cp s.data.toList := by
  refine ⟨grownCap w s.size 0 5, run_bytes_of_string w 9 36 5 s Tryd.underlying9 Tryd.underlying36 Tryd.underlying5, ?_⟩
  have h1 := grownCap_ge w s.size 0 5
  have h2 := grownCap_le_maxLen w s.size 0 5 (by unfold maxLen; omega)
  generalize grownCap w s.size 0 5 = cp at *
  have e : s.data.toList.length = s.size := Array.length_toList
  refine ⟨⟨_, _, heap_alloc_new w.drew _, ?_, .inl (Nat.le_refl _), ?_⟩, by rw [e]; exact h1, h2⟩
  · simp only [bytesRow, Array.size_append, Array.size_map, Array.size_replicate]
    show s.size + _ = _
    omega
  · simp only [bytesRow, Array.toList_append, Array.toList_map]
    rw [List.take_append_of_le_length (by simp), List.take_of_length_le (by simp)]
    rfl
/-- One byte is appended. -/
theorem Row.push {w : World} {g cp : Nat} {l : List UInt8} (h : Row w g cp l) (hl : l.length ≤ 140737488351240) (a : Addr) (c : Nat) (b : UInt8) (hu : w.cell? (a.add 0) = some (.int .u8 (b.toNat : Int))) (ty : TypeId) :
    ∃ g' cp' w', (Builtin.append_ #[36, 36] ty #[.slice (some ⟨g, 0, none⟩) l.length cp, .slice (some a) 1 c]).run Tryd.prog w = .ok (.slice (some ⟨g', 0, none⟩) (l.length + 1) cp') w' ∧ Row w' g' cp' (l ++ [b]) ∧ w.grownBy w' (some g) ∧ (g' = g ∨ w.heap.size ≤ g') := by
  obtain ⟨i, hi, hh⟩ := Option.map_eq_some_iff.1 info5
  simp only [Prod.mk.injEq] at hh
  obtain ⟨hz, hsz, hby⟩ := hh
  obtain ⟨cur, fz, h1, h2, h3, h4⟩ := h.blk
  have hle := h.le
  have hone : (Value.int .u8 (b.toNat : Int)).oneCell' = true := rfl
  have hnews : ∀ j u, [Value.int .u8 (b.toNat : Int)][j]? = some u → w.cell? (a.add j) = some u := fun j u hj => by
    match j, hj with
    | 0, hj => simp at hj; rw [← hj]; exact hu
  have hz2 : (l ++ [b]).length = l.length + 1 := by simp
  have hbc : Lib.byteCells (l ++ [b]) = Lib.byteCells l ++ [.int .u8 (b.toNat : Int)] := by simp [Lib.byteCells]
  by_cases hroom : l.length + 1 ≤ cp
  · have hf := run_firstCells_some (P := Tryd.prog) w 1 1 a 1 c [.int .u8 (b.toNat : Int)] rfl hnews
    have hfro := h.frozen l.length (by omega)
    have hcell : w.cell? ⟨g, l.length, none⟩ = some cur[l.length] := by simp [World.cell?, h1]
    have hst := run_store Tryd.prog w ⟨g, l.length, none⟩ (.int .u8 (b.toNat : Int)) .plain hone
    rw [hcell, hfro] at hst
    simp only [Bool.false_eq_true, if_false] at hst
    have hadd : (⟨g, l.length, none⟩ : Addr).add 0 = ⟨g, l.length, none⟩ := by unfold Addr.add; split <;> simp_all
    have hadd2 : (⟨g, 0, none⟩ : Addr).add l.length = ⟨g, l.length, none⟩ := by unfold Addr.add; split <;> simp_all
    refine ⟨g, cp, w.setCell ⟨g, l.length, none⟩ (.int .u8 (b.toNat : Int)), ?_, ?_, ?_, .inl rfl⟩
    · simp [Builtin.append_, run_underlying Tryd.underlying36, sizeOf, typeInfo, hi, hsz, Builtin.lenOf, hroom, hf, storeCells, hst, hadd, hadd2]
    · refine ⟨⟨cur.setIfInBounds l.length (.int .u8 (b.toNat : Int)), fz, ?_, by simp [h2], by simpa using h3, ?_⟩, by rw [hz2]; exact hroom, h.mx⟩
      · simp [World.setCell, Array.getElem?_modify, h1]
      · rw [hbc, ← h4, hz2, Array.toList_setIfInBounds, List.take_set]
        apply List.ext_getElem
        · simp; omega
        · intro n p1 p2
          simp at p1 p2 ⊢
          rw [List.getElem_set]
          by_cases e : l.length = n
          · subst e; rw [if_pos rfl, List.getElem_append_right (by simp; omega)]; simp
          · rw [if_neg e, List.getElem_append_left (by simp; omega)]; simp
    · exact ⟨rfl, rfl, rfl, by simp [World.setCell], fun k _ hk => by
        simp only [World.setCell, Array.getElem?_modify]
        rw [if_neg (fun e => hk (by simp [← e]))]⟩
  · have hb2 : (Lib.byteCells l).length = l.length * i.size := by rw [hsz, Lib.byteCells_length]; omega
    have hcells : ∀ j v, (Lib.byteCells l)[j]? = some v → w.cell? ((⟨g, 0, none⟩ : Addr).add j) = some v := fun j v hj => by
      have hadd : (⟨g, 0, none⟩ : Addr).add j = ⟨g, j, none⟩ := by unfold Addr.add; split <;> simp_all
      have hjl : j < l.length := by
        have := (List.getElem?_eq_some_iff.1 hj).1
        rwa [Lib.byteCells_length] at this
      rw [hadd, h.cell j hjl, ← byteCells_at l j hjl, hj]
    have hr := run_append_grow (P := Tryd.prog) w 36 ty 5 i (.int .u8 0) Tryd.underlying36 hi hz ⟨g, 0, none⟩ l.length cp (Lib.byteCells l) hb2 hcells a 1 c [.int .u8 (b.toNat : Int)] (by simp [hsz]) hnews (by omega) (by omega) (by rw [hby]; exact growslice_fits (by omega) (by omega))
    have g1 := grownCap_ge w (l.length + 1) cp 5
    have g2 := grownCap_le_maxLen w (l.length + 1) cp 5 (by unfold maxLen; omega)
    refine ⟨w.heap.size, _, _, hr, ⟨⟨_, _, heap_alloc_new w.drew _, ?_, ?_, ?_⟩, by rw [hz2]; exact g1, g2⟩, ⟨rfl, rfl, rfl, by simp, fun k hk _ => heap_alloc_old w.drew _ hk⟩, .inr (Nat.le_refl _)⟩
    · simp [size_zeroCells, Value.cells, Lib.byteCells_length]
      omega
    · right; rfl
    · rw [hbc, hz2, Array.toList_append, Array.toList_append]
      rw [List.take_append_of_le_length (by simp [Lib.byteCells_length]), List.take_of_length_le (by simp [Lib.byteCells_length])]
end Go.Proofs.YtacdiamflgcnbaaDoor.Nm
