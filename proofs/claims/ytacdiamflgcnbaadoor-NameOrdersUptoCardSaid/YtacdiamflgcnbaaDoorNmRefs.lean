/-
  The reference's Runes, Check, Write tell what the program's do.
-/
import Derived.Test.YtacdiamflgcnbaaDoorNmOne
import Derived.Test.YtacdiamflgcnbaaDoorNmText
import Derived.Test.YtacdiamflgcnbaaDoorPNax6
import Derived.Test.YtacdiamflgcnbaaDoorPNax2
set_option linter.unusedVariables false
set_option linter.unusedSimpArgs false
namespace Go.Proofs.YtacdiamflgcnbaaDoor.Nm
open Go.RowKit Go.Proofs.YtacdiamflgcnbaaDoorW.PrintWords Go.Proofs.YtacdiamflgcnbaaDoorW.PrintLast Go.Proofs.YtacdiamflgcnbaaDoorW.PrintMore Go.Proofs.YtacdiamflgcnbaaDoor.PNa
theorem ext_drop (s : ByteArray) (pos : Nat) : (s.extract pos s.size).data.toList = s.data.toList.drop pos := by
  rw [ext_toL, List.take_of_length_le (l := s.data.toList) (by rw [show s.data.toList.length = s.size from Array.length_toList]; exact Nat.le_refl _)]
theorem ext_ext (s : ByteArray) (pos wd : Nat) : (s.extract pos s.size).extract wd (s.extract pos s.size).size = s.extract (pos + wd) s.size := by
  apply WideShapes.bytes_inj
  rw [ext_drop, ext_drop, ext_drop, List.drop_drop]
theorem ext_dec (s : ByteArray) (pos : Nat) : Utf8.decode (s.extract pos s.size) 0 = Utf8.decode s pos := by
  rw [← Lib.decodeL_drop, ← Lib.decodeL_drop, ext_drop]
  rfl
theorem ext_sz (s : ByteArray) (pos : Nat) (h : pos ≤ s.size) : (s.extract pos s.size).size = s.size - pos := by rw [ByteArray.size_extract]; omega
theorem ext_nil (s : ByteArray) (pos : Nat) (h : pos < s.size) : (s.extract pos s.size).toList ≠ [] := by
  intro e
  rw [ByteArray.toList_eq, ext_drop] at e
  have := congrArg List.length e
  rw [List.length_drop, show s.data.toList.length = s.size from Array.length_toList] at this
  have h2 : s.size - pos = 0 := this
  omega
theorem dec_le (s : ByteArray) (pos : Nat) (h : pos < s.size) : (Utf8.decode s pos).2 ≤ s.size - pos := by
  have := Lib.decodeL_le (s.data.toList.drop pos) (by rw [← ext_drop, ← ByteArray.toList_eq]; exact ext_nil s pos h)
  rwa [Lib.decodeL_drop, List.length_drop, show s.data.toList.length = s.size from Array.length_toList] at this
theorem valid_at (s : ByteArray) (pos : Nat) (h : pos < s.size) : Lib.validD (s.data.toList.drop pos) = if (Utf8.decode s pos).1 = 65533 ∧ (Utf8.decode s pos).2 = 1 then false else Lib.validD (s.data.toList.drop (pos + (Utf8.decode s pos).2)) := by
  rw [Lib.validD_step _ (by rw [← ext_drop, ← ByteArray.toList_eq]; exact ext_nil s pos h), Lib.decodeL_drop, List.drop_drop]
theorem one_ev (s : ByteArray) (h0 : 0 < s.size) (hs : s.size ≤ 100000) : Ev (fun k => flintref2_One.f k s) (oneR s) := Ev.of (flintref2_One.mono s) (one_ok s h0 hs)
theorem runes_loop (s : ByteArray) (hs : s.size ≤ 100000) : ∀ (d pos : Nat) (acc : List Int), s.size - pos ≤ d → pos ≤ s.size → acc.length ≤ pos →
    Ev (fun k => flintref2_Runes.l0 k (s.extract pos s.size) acc) (if Lib.validD (s.data.toList.drop pos) = true then (acc ++ runesFrom s d pos, true) else ([], false)) := by
  intro d
  have hbase : ∀ (d pos : Nat) (acc : List Int), pos = s.size → Ev (fun k => flintref2_Runes.l0 k (s.extract pos s.size) acc) (if Lib.validD (s.data.toList.drop pos) = true then (acc ++ runesFrom s d pos, true) else ([], false)) := by
    rintro d pos acc rfl
    have e1 : (s.extract s.size s.size).toList = [] := by
      rw [ByteArray.toList_eq, ext_drop, List.drop_of_length_le (by rw [show s.data.toList.length = s.size from Array.length_toList]; exact Nat.le_refl _)]
    rw [List.drop_of_length_le (by rw [show s.data.toList.length = s.size from Array.length_toList]; exact Nat.le_refl _), runesFrom_end s d s.size (by omega), List.append_nil]
    refine Ev.step (f := fun _ => some (acc, true)) (fun k => ?_) (Ev.now _)
    simp only [flintref2_Runes.l0]
    rw [if_pos e1]
  induction d with
  | zero => exact fun pos acc h1 h2 h3 => hbase 0 pos acc (by omega)
  | succ d ih =>
    intro pos acc h1 h2 h3
    by_cases hp : pos < s.size
    · have hw := width_pos s pos hp
      have hle := dec_le s pos hp
      rw [valid_at s pos hp]
      have h1v := one_ev (s.extract pos s.size) (by rw [ext_sz s pos h2]; omega) (by rw [ext_sz s pos h2]; omega)
      simp only [runesFrom, if_pos hp]
      have hR : oneR (s.extract pos s.size) = if (Utf8.decode s pos).1 = 65533 ∧ (Utf8.decode s pos).2 = 1 then (0, 0) else (((Utf8.decode s pos).1 : Int), ((Utf8.decode s pos).2 : Int)) := by
        unfold oneR; rw [ext_dec]
      rw [hR] at h1v
      refine Ev.step (f := fun k => (flintref2_One.f k (s.extract pos s.size)).bind fun bt159 => (if bt159.2 = 0 then (some (([] : List Int), false)) else (if acc.length < 17592186044416 then (if 0 ≤ bt159.2 then (if bt159.2 ≤ ((s.extract pos s.size).size : Int) then (flintref2_Runes.l0 k ((s.extract pos s.size).extract (bt159.2 : Int).toNat (s.extract pos s.size).size) (acc ++ [bt159.1])) else (none)) else (none)) else (none)))) (fun k => ?_) (Ev.bind h1v ?_)
      · simp only [flintref2_Runes.l0]
        rw [if_neg (ext_nil s pos hp)]
      · by_cases hb : (Utf8.decode s pos).1 = 65533 ∧ (Utf8.decode s pos).2 = 1
        · simp only [if_pos hb, if_true, Bool.false_eq_true, if_false]
          exact Ev.now _
        · simp only [if_neg hb]
          have c1 : ¬ ((Utf8.decode s pos).2 : Int) = 0 := by omega
          have c2 : acc.length < 17592186044416 := by omega
          have c3 : (0 : Int) ≤ ((Utf8.decode s pos).2 : Int) := by omega
          have c4 : ((Utf8.decode s pos).2 : Int) ≤ ((s.extract pos s.size).size : Int) := by rw [ext_sz s pos h2]; omega
          simp only [if_neg c1, if_pos c2, if_pos c3, if_pos c4, Int.toNat_natCast, ext_ext]
          have := ih (pos + (Utf8.decode s pos).2) (acc ++ [((Utf8.decode s pos).1 : Int)]) (by omega) (by omega) (by simp; omega)
          simpa using this
    · exact hbase (d + 1) pos acc (by omega)
theorem ref_runes (s : ByteArray) (hs : s.size ≤ 100000) : Ev (fun k => flintref2_Runes.f k s) (if Lib.validD s.data.toList = true then runesL s else [], Lib.validD s.data.toList) := by
  have := runes_loop s hs s.size 0 [] (by omega) (by omega) (by simp)
  have e : s.extract 0 s.size = s := by
    apply WideShapes.bytes_inj
    rw [ext_drop]; rfl
  rw [e] at this
  unfold flintref2_Runes.f runesL
  cases h : Lib.validD s.data.toList
  · rw [List.drop_zero, h] at this
    exact this
  · rw [List.drop_zero, h] at this
    exact this
end Go.Proofs.YtacdiamflgcnbaaDoor.Nm
