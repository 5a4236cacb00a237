/-
  Bytes as runes, runes as bytes.
-/
import Derived.Test.YtacdiamflgcnbaaDoorPNbRunes
import Derived.Test.YtacdiamflgcnbaaDoorNmRefs2
set_option linter.unusedVariables false
set_option linter.unusedSimpArgs false
namespace Go.Proofs.YtacdiamflgcnbaaDoor.Pure
open Go.RowKit Go.Proofs.YtacdiamflgcnbaaDoor.PNa Go.Proofs.YtacdiamflgcnbaaDoor.Nm Go.Proofs.YtacdiamflgcnbaaDoorW.PrintWords Go.Proofs.YtacdiamflgcnbaaDoorW.PrintLast Go.Proofs.YtacdiamflgcnbaaDoorW.PrintMore
namespace Runes
theorem known60r : flintlaw2_known.f 60 = some true := by decide +kernel
theorem known_ev : Ev (fun k => flintlaw2_known.f k) true := Ev.of flintlaw2_known.mono known60r
theorem w32 {i : Int} (h0 : -3000000000 ≤ i) (h1 : i < 3000000000) : wrap64 i = i := by unfold wrap64; omega
theorem rune_mem (s : ByteArray) : ∀ (f pos : Nat), ∀ x ∈ runesFrom s f pos, 0 ≤ x ∧ x ≤ 2147483647 := by
  intro f
  induction f with
  | zero => intro pos x hx; simp [runesFrom] at hx
  | succ f ih =>
    intro pos x hx
    simp only [runesFrom] at hx
    split at hx
    · rcases List.mem_cons.1 hx with rfl | hx
      · have := decode_le s pos; omega
      · exact ih _ x hx
    · simp at hx
theorem rd_mem {l : List Int} {i : Nat} (h : i < l.length) : rd l i ∈ l := by
  unfold rd
  rw [Int.toNat_natCast]
  simp [List.getD, h]
theorem last_loop (s : ByteArray) (l : List Int) (hl : l.length ≤ 10000) (hw : ∀ x ∈ l, -2147483648 ≤ x ∧ x ≤ 2147483647) (a : List Int) (ok : Bool) (ha : a.length ≤ 1000000) (hok : ok = true → textB a = s) : ∀ (d i : Nat), l.length - i ≤ d → i ≤ l.length →
    Ev (fun k => flintlaw2_NameRunes.l1 k s l a ok (l.take i) ((l.take i).flatMap Lib.encodeRuneZ) i) true := by
  intro d
  have hbase : ∀ i : Nat, i = l.length → Ev (fun k => flintlaw2_NameRunes.l1 k s l a ok (l.take i) ((l.take i).flatMap Lib.encodeRuneZ) i) true := by
    rintro i rfl
    rw [List.take_length]
    refine Ev.step (f := fun _ => some true) (fun k => ?_) (Ev.now _)
    simp only [flintlaw2_NameRunes.l1]
    rw [if_neg (by omega)]
    have e1 : name_Text.f l = some (textB l) := by unfold name_Text.f; rw [if_pos (by omega)]
    have e2 : name_Text.f a = some (textB a) := by unfold name_Text.f; rw [if_pos (by omega)]
    rw [e1, Option.bind_some, nums_flat, if_pos rfl]
    cases ok with
    | true => rw [if_pos rfl, e2, Option.bind_some, hok rfl]; simp
    | false => simp
  induction d with
  | zero => exact fun i h1 h2 => hbase i (by omega)
  | succ d ih =>
    intro i h1 h2
    by_cases hi : i < l.length
    · have hm := hw _ (rd_mem hi)
      have hn := ih (i + 1) (by omega) (by omega)
      have e1 : l.take (i + 1) = l.take i ++ [rd l i] := by
        rw [take_snoc l i hi]
        unfold rd
        rw [Int.toNat_natCast]
      have hfl : ∀ x : List Int, (x.flatMap Lib.encodeRuneZ).length ≤ 4 * x.length := by
        intro x
        induction x with
        | nil => simp
        | cons b x ihx =>
          have := (Lib.encodeRuneZ_length b).2
          simp only [List.flatMap_cons, List.length_append, List.length_cons]
          omega
      have hlen := hfl (l.take i)
      have hlt : (l.take i).length ≤ i := by simp; omega
      rw [e1, List.flatMap_append] at hn
      simp only [List.flatMap_cons, List.flatMap_nil, List.append_nil] at hn
      refine Ev.step (f := fun k => (flintref2_Write.f k ((l.take i).flatMap Lib.encodeRuneZ) (rd l i)).bind fun t208 => (flintlaw2_NameRunes.l1 k s l a ok (l.take i ++ [rd l i]) t208 ((i + 1 : Nat) : Int))) (fun k => ?_) (Ev.bind (a := (l.take i).flatMap Lib.encodeRuneZ ++ Lib.encodeRuneZ (rd l i)) ⟨2, fun k hk => ?_⟩ hn)
      · simp only [flintlaw2_NameRunes.l1]
        rw [if_pos (by omega), if_pos (by omega), if_pos (by omega), w32 (i := rd l i) (by omega) (by omega), w32 (i := (i : Int) + 1) (by omega) (by omega)]
        rfl
      · obtain ⟨m, rfl⟩ : ∃ m, k = m + 2 := ⟨k - 2, by omega⟩
        exact write_ok _ _ (by omega) m
    · exact hbase i (by omega)
theorem same_loop (s : ByteArray) (l a : List Int) (ok : Bool) (ha : a.length ≤ 1000000) (hab : ∀ x ∈ a, 0 ≤ x ∧ x ≤ 2147483647) (hl : Ev (fun k => flintlaw2_NameRunes.l1 k s l a ok [] [] 0) true) : ∀ (d i : Nat), a.length - i ≤ d →
    Ev (fun k => flintlaw2_NameRunes.l0 k s l a ok a i) true := by
  intro d
  have hbase : ∀ i : Nat, ¬ i < a.length → Ev (fun k => flintlaw2_NameRunes.l0 k s l a ok a i) true := by
    intro i hi
    refine Ev.step (fun k => ?_) hl
    simp only [flintlaw2_NameRunes.l0]
    rw [if_neg (by omega)]
  induction d with
  | zero => exact fun i h => hbase i (by omega)
  | succ d ih =>
    intro i h
    by_cases hi : i < a.length
    · have hm := hab _ (rd_mem hi)
      refine Ev.step (fun k => ?_) (ih (i + 1) (by omega))
      simp only [flintlaw2_NameRunes.l0]
      rw [if_pos (by omega), if_pos (by omega), if_pos (by omega), w32 (i := rd a i) (by omega) (by omega), if_pos rfl, w32 (i := (i : Int) + 1) (by omega) (by omega)]
      rfl
    · exact hbase i hi
end Runes
open Runes
theorem NameRunes : flintlaw2_NameRunes.Pure := by
  intro s l hs hm h4 hw
  have hw2 : ∀ x ∈ l, -2147483648 ≤ x ∧ x ≤ 2147483647 := by
    intro x hx
    have := hw x hx
    have h2 : IntKind.i32.min = -2147483648 := rfl
    have h3 : IntKind.i32.max = 2147483647 := rfl
    simp [Lit.wf, h2, h3] at this; omega
  refine Ev.rounds (g := fun k => flintlaw2_NameRunes.f k s l) ?_
  unfold flintlaw2_NameRunes.f
  refine Ev.bind known_ev ?_
  simp only [if_true]
  have yes : Ev (fun k => flintlaw2_NameRunes.j0 k s l true) true := Ev.step (f := fun _ => some true) (fun k => by simp [flintlaw2_NameRunes.j0]) (Ev.now _)
  by_cases h1 : (s.size : Int) > 32768
  · simp only [if_pos h1]; exact yes
  · simp only [if_neg h1]
    by_cases h2 : (l.length : Int) > 8192
    · rw [decide_eq_true h2]; exact yes
    · rw [decide_eq_false h2]
      have hr := ref_runes s (by omega)
      obtain ⟨c, c1, c2⟩ := check_same s (by omega)
      have hp : name_Runes.f s = some (if Lib.validD s.data.toList = true then runesL s else [], Lib.validD s.data.toList) := by unfold name_Runes.f; rw [if_pos (by omega)]
      have hok : Lib.validD s.data.toList = true → textB (if Lib.validD s.data.toList = true then runesL s else []) = s := by
        intro h
        rw [if_pos h]; exact text_runes s h
      have hlen : (if Lib.validD s.data.toList = true then runesL s else []).length ≤ 100000 := by
        split
        · exact Nat.le_trans (runesFrom_len s _ _) (by omega)
        · simp
      have hmem : ∀ x ∈ (if Lib.validD s.data.toList = true then runesL s else []), 0 ≤ x ∧ x ≤ 2147483647 := by
        split
        · exact rune_mem s _ _
        · simp
      generalize (if Lib.validD s.data.toList = true then runesL s else []) = a at *
      generalize Lib.validD s.data.toList = ok at *
      have hl := last_loop s l (by omega) hw2 a ok (by omega) hok l.length 0 (by omega) (by omega)
      have h0 := same_loop s l a ok (by omega) hmem hl a.length 0 (by omega)
      refine Ev.step (f := fun k => (flintref2_Runes.f k s).bind fun bt195 => (if (ok != bt195.2) = true then (flintlaw2_NameRunes.j1 k s l a ok bt195.1 true) else (if (a.length : Int) = (bt195.1.length : Int) then ((name_Check.f k s).bind fun t199 => ((flintref2_Check.f k s).bind fun t200 => (flintlaw2_NameRunes.j1 k s l a ok bt195.1 (t199 != t200)))) else (flintlaw2_NameRunes.j1 k s l a ok bt195.1 true)))) (fun k => ?_) (Ev.bind hr ?_)
      · simp only [flintlaw2_NameRunes.j0, Bool.false_eq_true, if_false, hp, Option.bind_some]
      · simp only [bne_self_eq_false, Bool.false_eq_true, if_false, if_true]
        refine Ev.bind c1 (Ev.bind c2 ?_)
        simp only [bne_self_eq_false]
        refine Ev.step (fun k => ?_) h0
        simp only [flintlaw2_NameRunes.j1, Bool.false_eq_true, if_false]
        rfl
end Go.Proofs.YtacdiamflgcnbaaDoor.Pure
