/-
  The reference's Check and Write; a text out of its runes.
-/
import Derived.Test.YtacdiamflgcnbaaDoorNmRefs
import Derived.Test.YtacdiamflgcnbaaDoorNmRefQ
set_option linter.unusedVariables false
set_option linter.unusedSimpArgs false
namespace Go.Proofs.YtacdiamflgcnbaaDoor.Nm
open Go.RowKit Go.Proofs.YtacdiamflgcnbaaDoorW.PrintWords Go.Proofs.YtacdiamflgcnbaaDoorW.PrintLast Go.Proofs.YtacdiamflgcnbaaDoorW.PrintMore Go.Proofs.YtacdiamflgcnbaaDoor.PNa
/-- One rune's test. -/
def chkT (v : Int) (X : Option Int) : Option Int :=
  (if v ≤ 32 then (some 1) else (if v ≥ 127 then (if v ≤ 159 then (some 1) else (if v = 47 then (some 1) else (if v = 34 then (some 1) else (if v = 92 then (some 1) else (if v = 65533 then (some 1) else X))))) else (if v = 47 then (some 1) else (if v = 34 then (some 1) else (if v = 92 then (some 1) else (if v = 65533 then (some 1) else X))))))
theorem chkT_cases (v : Int) : (∀ X, chkT v X = some 1) ∨ (∀ X, chkT v X = X) := by
  by_cases h : v ≤ 32 ∨ (v ≥ 127 ∧ v ≤ 159) ∨ v = 47 ∨ v = 34 ∨ v = 92 ∨ v = 65533
  · left
    intro X
    unfold chkT
    repeat' split
    all_goals first | rfl | (exfalso; omega)
  · right
    intro X
    unfold chkT
    repeat' split
    all_goals first | rfl | (exfalso; omega)
theorem check_loop (l : List Int) (hl : l.length ≤ 100000) : ∀ (d i : Nat), l.length - i ≤ d → ∃ r, Ev (fun k => name_Check.l0 k l (l.length : Int) i) r ∧ Ev (fun k => flintref2_Check.l0 k l i) r := by
  intro d
  have hbase : ∀ i : Nat, ¬ i < l.length → ∃ r, Ev (fun k => name_Check.l0 k l (l.length : Int) i) r ∧ Ev (fun k => flintref2_Check.l0 k l i) r := by
    intro i hi
    refine ⟨0, Ev.step (f := fun _ => some 0) (fun k => ?_) (Ev.now _), Ev.step (f := fun _ => some 0) (fun k => ?_) (Ev.now _)⟩
    · simp only [name_Check.l0]; rw [if_neg (by omega)]
    · simp only [flintref2_Check.l0]; rw [if_neg (by omega)]
  induction d with
  | zero => exact fun i h => hbase i (by omega)
  | succ d ih =>
    intro i h
    by_cases hi : i < l.length
    · have e1 : ∀ k, name_Check.l0 (k + 1) l (l.length : Int) i = chkT (rd l i) (name_Check.l0 k l (l.length : Int) ((i + 1 : Nat) : Int)) := by
        intro k
        simp only [name_Check.l0]
        rw [if_pos (by omega), if_pos (by omega), if_pos (by omega), w64 (by omega) (by omega)]
        rfl
      have e2 : ∀ k, flintref2_Check.l0 (k + 1) l i = chkT (rd l i) (flintref2_Check.l0 k l ((i + 1 : Nat) : Int)) := by
        intro k
        simp only [flintref2_Check.l0]
        rw [if_pos (by omega), if_pos (by omega), w64 (by omega) (by omega)]
        rfl
      rcases chkT_cases (rd l i) with hc | hc
      · exact ⟨1, Ev.step (f := fun _ => some 1) (fun k => by rw [e1, hc]) (Ev.now _), Ev.step (f := fun _ => some 1) (fun k => by rw [e2, hc]) (Ev.now _)⟩
      · obtain ⟨r, r1, r2⟩ := ih (i + 1) (by omega)
        exact ⟨r, Ev.step (fun k => by rw [e1, hc]) r1, Ev.step (fun k => by rw [e2, hc]) r2⟩
    · exact hbase i hi
theorem runesFrom_len (s : ByteArray) : ∀ (f pos : Nat), (runesFrom s f pos).length ≤ f := by
  intro f
  induction f with
  | zero => intro pos; simp [runesFrom]
  | succ f ih =>
    intro pos
    simp only [runesFrom]
    split
    · simp only [List.length_cons]; have := ih (pos + (Utf8.decode s pos).2); omega
    · simp
theorem check_same (s : ByteArray) (hs : s.size ≤ 100000) : ∃ r, Ev (fun k => name_Check.f k s) r ∧ Ev (fun k => flintref2_Check.f k s) r := by
  have hr := ref_runes s hs
  have hp : name_Runes.f s = some (if Lib.validD s.data.toList = true then runesL s else [], Lib.validD s.data.toList) := by unfold name_Runes.f; rw [if_pos (by omega)]
  have hlen : (if Lib.validD s.data.toList = true then runesL s else []).length ≤ 100000 := by
    split
    · exact Nat.le_trans (runesFrom_len s _ _) hs
    · simp
  generalize (if Lib.validD s.data.toList = true then runesL s else []) = l at *
  generalize Lib.validD s.data.toList = ok at *
  have key : ∀ b : Bool, ∃ r, Ev (fun k => name_Check.j0 k l b) r ∧ Ev (fun k => flintref2_Check.j0 k l b) r := by
    intro b
    cases b with
    | true => exact ⟨1, Ev.step (f := fun _ => some 1) (fun k => by simp [name_Check.j0]) (Ev.now _), Ev.step (f := fun _ => some 1) (fun k => by simp [flintref2_Check.j0]) (Ev.now _)⟩
    | false =>
      obtain ⟨r, r1, r2⟩ := check_loop l hlen l.length 0 (by omega)
      exact ⟨r, Ev.step (fun k => by simp [name_Check.j0]) r1, Ev.step (fun k => by simp [flintref2_Check.j0]) r2⟩
  have sel : ∃ b : Bool, (∀ k, (if ok = true then (if (l.length : Int) < 1 then (name_Check.j0 k l true) else (if (l.length : Int) > 32 then (name_Check.j0 k l true) else (name_Check.j0 k l (decide ((s.size : Int) > 64))))) else (name_Check.j0 k l true)) = name_Check.j0 k l b) ∧
      (∀ k, (if ok = true then (if (l.length : Int) < 1 then (flintref2_Check.j0 k l true) else (if (l.length : Int) > 32 then (flintref2_Check.j0 k l true) else (flintref2_Check.j0 k l (decide ((s.size : Int) > 64))))) else (flintref2_Check.j0 k l true)) = flintref2_Check.j0 k l b) := by
    cases ok with
    | false => exact ⟨true, fun k => by simp, fun k => by simp⟩
    | true =>
      by_cases a1 : (l.length : Int) < 1
      · exact ⟨true, fun k => by simp only [if_true, if_pos a1], fun k => by simp only [if_true, if_pos a1]⟩
      · by_cases a2 : (l.length : Int) > 32
        · exact ⟨true, fun k => by simp only [if_true, if_neg a1, if_pos a2], fun k => by simp only [if_true, if_neg a1, if_pos a2]⟩
        · exact ⟨decide ((s.size : Int) > 64), fun k => by simp only [if_true, if_neg a1, if_neg a2], fun k => by simp only [if_true, if_neg a1, if_neg a2]⟩
  obtain ⟨b, s1, s2⟩ := sel
  obtain ⟨r, r1, r2⟩ := key b
  refine ⟨r, ?_, ?_⟩
  · refine Ev.congr (fun k => ?_) r1
    unfold name_Check.f
    rw [hp, Option.bind_some]
    exact s1 k
  · unfold flintref2_Check.f
    refine Ev.bind hr ?_
    exact Ev.congr s2 r2
theorem or192 : ∀ a : Fin 32, Go.bits .or .i64 192 ((a.val : Nat) : Int) = ((192 + a.val : Nat) : Int) := by
  intro a
  rw [show (192 : Int) = ((192 : Nat) : Int) from rfl, i64_or_small _ _ (by omega) (by omega)]
  revert a; decide +kernel
theorem or224 : ∀ a : Fin 16, Go.bits .or .i64 224 ((a.val : Nat) : Int) = ((224 + a.val : Nat) : Int) := by
  intro a
  rw [show (224 : Int) = ((224 : Nat) : Int) from rfl, i64_or_small _ _ (by omega) (by omega)]
  revert a; decide +kernel
theorem or240 : ∀ a : Fin 8, Go.bits .or .i64 240 ((a.val : Nat) : Int) = ((240 + a.val : Nat) : Int) := by
  intro a
  rw [show (240 : Int) = ((240 : Nat) : Int) from rfl, i64_or_small _ _ (by omega) (by omega)]
  revert a; decide +kernel
theorem or128 : ∀ a : Fin 64, Go.bits .or .i64 128 ((a.val : Nat) : Int) = ((128 + a.val : Nat) : Int) := by
  intro a
  rw [show (128 : Int) = ((128 : Nat) : Int) from rfl, i64_or_small _ _ (by omega) (by omega)]
  revert a; decide +kernel
theorem low6 (v : Nat) (hv : v < 1099511627776) : (Go.bits .or .i64 128 (Go.bits .and .i64 (v : Int) 63)) % 256 = ((128 + v % 64 : Nat) : Int) := by
  have := i64_and_small v 6 hv (by omega)
  rw [show ((2 ^ 6 - 1 : Nat) : Int) = 63 from rfl, show (2 : Nat) ^ 6 = 64 from rfl] at this
  have h2 := or128 ⟨v % 64, by omega⟩
  simp only at h2
  rw [this, h2]
  omega
theorem write_j1 (l : List Int) (v : Nat) (hl : l.length ≤ 100000000) (hv : v < 55296 ∨ (57343 < v ∧ v ≤ 1114111)) (k : Nat) : flintref2_Write.j1 (k + 1) l v = some (l ++ Lib.encodeRuneZ v) := by
  simp only [flintref2_Write.j1, Option.bind_some]
  by_cases h1 : v < 128
  · rw [if_pos (by omega), if_pos (by omega), Lib.encodeRuneZ_one (by omega) (by omega), show (v : Int) % 256 = v by omega]
  · by_cases h2 : v < 2048
    · have o1 := or192 ⟨v / 64, by omega⟩
      simp only at o1
      rw [if_neg (by omega), if_pos (by omega), if_pos (by simp; omega), Lib.encodeRuneZ_two (by omega) (by omega), low6 v (by omega), show (v : Int) / 64 = ((v / 64 : Nat) : Int) by omega, o1]
      congr 3 <;> omega
    · by_cases h3 : v < 65536
      · have o1 := or224 ⟨v / 4096, by omega⟩
        simp only at o1
        rw [if_neg (by omega), if_neg (by omega), if_pos (by omega), if_pos (by simp; omega), Lib.encodeRuneZ_three (by omega), low6 v (by omega), show (v : Int) / 64 = ((v / 64 : Nat) : Int) by omega, low6 (v / 64) (by omega), show (v : Int) / 4096 = ((v / 4096 : Nat) : Int) by omega, o1]
        congr 3 <;> omega
      · have o1 := or240 ⟨v / 262144, by omega⟩
        simp only at o1
        rw [if_neg (by omega), if_neg (by omega), if_neg (by omega), if_pos (by simp; omega), Lib.encodeRuneZ_four (by omega) (by omega), low6 v (by omega), show (v : Int) / 64 = ((v / 64 : Nat) : Int) by omega, low6 (v / 64) (by omega), show (v : Int) / 4096 = ((v / 4096 : Nat) : Int) by omega, low6 (v / 4096) (by omega), show (v : Int) / 262144 = ((v / 262144 : Nat) : Int) by omega, o1]
        congr 3 <;> omega
theorem write_ok (l : List Int) (v : Int) (hl : l.length ≤ 100000000) (k : Nat) : flintref2_Write.f (k + 2) l v = some (l ++ Lib.encodeRuneZ v) := by
  unfold flintref2_Write.f
  have bad : v < 0 ∨ (55296 ≤ v ∧ v ≤ 57343) ∨ 1114111 < v → flintref2_Write.j0 (k + 2) l v true = some (l ++ Lib.encodeRuneZ v) := by
    intro h
    simp only [flintref2_Write.j0, if_true]
    rw [show (65533 : Int) = ((65533 : Nat) : Int) from rfl, write_j1 l 65533 hl (by omega), Lib.encodeRuneZ_bad h]
    rfl
  have good : 0 ≤ v → v < 55296 ∨ (57343 < v ∧ v ≤ 1114111) → flintref2_Write.j0 (k + 2) l v false = some (l ++ Lib.encodeRuneZ v) := by
    intro h0 h
    obtain ⟨n, rfl⟩ := Int.eq_ofNat_of_zero_le h0
    simp only [flintref2_Write.j0, Bool.false_eq_true, if_false]
    exact write_j1 l n hl (by omega) k
  by_cases h1 : v < 0
  · rw [if_pos h1]; exact bad (.inl h1)
  · rw [if_neg h1]
    by_cases h2 : v > 1114111
    · rw [if_pos h2]; exact bad (.inr (.inr h2))
    · rw [if_neg h2]
      by_cases h3 : v ≥ 55296
      · rw [if_pos h3]
        by_cases h4 : v < 57344
        · rw [decide_eq_true h4]; exact bad (.inr (.inl ⟨h3, by omega⟩))
        · rw [decide_eq_false h4]; exact good (by omega) (.inr ⟨by omega, by omega⟩)
      · rw [if_neg h3]; exact good (by omega) (.inl (by omega))
theorem text_list (l : List Int) : (textB l).data.toList = l.flatMap Lib.encodeRune := by
  induction l with
  | nil => rfl
  | cons r l ih => simp only [textB, toL_append, encL, ih, List.flatMap_cons]
theorem text_runes (s : ByteArray) (hv : Lib.validD s.data.toList = true) : textB (runesL s) = s := by
  have key : ∀ (f pos : Nat), s.size ≤ pos + f → Lib.validD (s.data.toList.drop pos) = true → (runesFrom s f pos).flatMap Lib.encodeRune = s.data.toList.drop pos := by
    have hz : s.data.toList.length = s.size := Array.length_toList
    intro f
    induction f with
    | zero =>
      intro pos h _
      rw [List.drop_of_length_le (by omega)]
      rfl
    | succ f ih =>
      intro pos h hva
      by_cases hp : pos < s.size
      · rw [valid_at s pos hp] at hva
        have hw := width_pos s pos hp
        by_cases hb : (Utf8.decode s pos).1 = 65533 ∧ (Utf8.decode s pos).2 = 1
        · rw [if_pos hb] at hva; cases hva
        · rw [if_neg hb] at hva
          simp only [runesFrom, if_pos hp, List.flatMap_cons]
          rw [ih _ (by omega) hva]
          have he := Lib.encode_decode (s.data.toList.drop pos) (by rw [← ext_drop, ← ByteArray.toList_eq]; exact ext_nil s pos hp) (by rw [Lib.decodeL_drop]; exact hb)
          rw [Lib.decodeL_drop] at he
          rw [he, ← List.drop_drop, List.take_append_drop]
      · rw [runesFrom_end s _ pos hp, List.drop_of_length_le (by omega)]
        rfl
  apply WideShapes.bytes_inj
  rw [text_list]
  have := key s.size 0 (by omega) (by simpa using hv)
  unfold runesL
  simpa using this
theorem nums_flat (l : List Int) : strOfNums (l.flatMap Lib.encodeRuneZ) = textB l := by
  apply WideShapes.bytes_inj
  rw [text_list]
  unfold strOfNums Lib.encodeRune
  simp only [List.map_flatMap]
end Go.Proofs.YtacdiamflgcnbaaDoor.Nm
