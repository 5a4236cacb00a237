/-
  The walk of name.Text: the runes' bytes, one behind the other.
-/
import Derived.Test.YtacdiamflgcnbaaDoorNmQuote
set_option linter.unusedVariables false
set_option linter.unusedSimpArgs false
namespace Go.Proofs.YtacdiamflgcnbaaDoor.Nm
open Go.RowKit Go.Proofs.YtacdiamflgcnbaaDoorW.PrintWords Go.Proofs.YtacdiamflgcnbaaDoorW.PrintLast Go.Proofs.YtacdiamflgcnbaaDoorW.PrintMore
def textB : List Int → ByteArray
  | [] => ⟨#[]⟩
  | r :: l => Utf8.encode r ++ textB l
theorem textB_snoc (l : List Int) (r : Int) : textB (l ++ [r]) = textB l ++ Utf8.encode r := by
  induction l with
  | nil => simp [textB]; apply ByteArray.ext; simp
  | cons a l ih => simp only [List.cons_append, textB, ih, ByteArray.append_assoc]
theorem textB_size (l : List Int) : (textB l).size ≤ 4 * l.length := by
  induction l with
  | nil => exact Nat.le_refl _
  | cons a l ih =>
    have := encode_size a
    simp only [textB, ByteArray.size_append, List.length_cons]
    omega
theorem take_snoc (l : List Int) (i : Nat) (h : i < l.length) : l.take (i + 1) = l.take i ++ [l.getD i 0] := by
  rw [List.take_add_one, List.getElem?_eq_getElem h]
  simp [List.getD, h]
theorem cell_at {w : World} {A : Option Addr} {n : Nat} {l : List Int} (h : Kd.C (Kd.int .i32) w A n l) {i : Nat} (hi : i < n) :
    ∃ ad, A = some ad ∧ w.cell? (ad.add i) = some (.int .i32 (l.getD i 0)) := by
  obtain ⟨ad, c, e, _, hK, hc⟩ := Kd.C_get h (0 : Int) (i : Int) (by omega) (by omega)
  refine ⟨ad, e, ?_⟩
  have hK2 : c = [Value.int .i32 (l.getD ((i : Int)).toNat 0)] := hK
  subst hK2
  have := hc 0 _ rfl
  rwa [show (Kd.int .i32).sz = 1 from rfl, Nat.mul_one, Nat.add_zero, Int.toNat_natCast] at this
set_option maxRecDepth 1000000 in
set_option maxHeartbeats 4000000 in
theorem text20 (w : World) (l : List Int) (A : Option Addr) (c n : Nat) (hC : Kd.C (Kd.int .i32) w A n l) (hn : l.length = n) (hl : n ≤ 1099511627776) :
    Calls Tryd.prog 20 #[.slice A n c] w fun e w' => e = .returned (.string (textB l)) ∧ w' = w := by
  have HC : Aside0 (∀ i, i < n → ∃ ad, A = some ad ∧ w.cell? (ad.add i) = some (.int .i32 (l.getD i 0))) := ⟨fun i hi => cell_at hC hi⟩
  have HL := Aside0.mk hn
  clear hC hn
  go_enter Tryd.func20, Tryd.ntmps20
  go_wp2
  go_loop [8, 3] (fun v u => ∃ i : Nat, i ≤ n ∧ v = .int .i64 (i : Nat) ∧ u = .string (textB (l.take i))) (fun v _ => n - (intOf v).toNat)
  case atStart => exact ⟨0, Nat.zero_le _, rfl, rfl⟩
  case round =>
    obtain ⟨i, hi, rfl, rfl⟩ := hrel
    by_cases hlt : i < n
    · obtain ⟨ad, rfl, cel⟩ := HC.out i hlt
      have q1 : (0 : Int) ≤ (i : Int) := by omega
      have q2 : (i : Int) < (n : Int) := by omega
      have hs : (textB (l.take i)).size + (Utf8.encode (l.getD i 0)).size ≤ 9223372036854775807 := by
        have h1 := textB_size (l.take i)
        have h2 := encode_size (l.getD i 0)
        have h3 : (l.take i).length ≤ i := by simp; omega
        omega
      have HT : Aside0 (textB (l.take (i + 1)) = textB (l.take i) ++ Utf8.encode (l.getD i 0)) := ⟨by rw [take_snoc l i (by have := HL.out; omega), textB_snoc]⟩
      generalize l.getD i 0 = r at *
      generalize textB (l.take i) = tb at *
      go_wp2
      go_round
      case rel => exact ⟨i + 1, by omega, by go_num, by rw [HT.out]⟩
      case measure => simp [intOf]; omega
    · have hin : Aside0 (i = n) := ⟨by omega⟩
      go_wp2
      go_ret
      refine ⟨?_, rfl⟩
      rw [hin.out, ← HL.out, List.take_length]
      rfl
def name_Text.f (l0 : List Int) : Option ByteArray := if l0.length ≤ 1099511627776 then some (textB l0) else none
theorem name_Text.calls (A0 : Option Addr) (c0 : Nat) (l0 : List Int) (r : ByteArray) (w : World) (hr0 : Kd.C (Kd.int .i32) w A0 l0.length l0) (hc0 : l0.length ≤ c0) (h : name_Text.f l0 = some r) :
    Calls Tryd.prog 20 #[.slice A0 l0.length c0] w fun e w' => e = .returned (.string r) ∧ Drawn0 w w' := by
  unfold name_Text.f at h
  split at h
  · cases h
    refine (text20 w l0 A0 c0 _ hr0 rfl (by assumption)).mono ?_
    rintro e w' ⟨rfl, rfl⟩
    exact ⟨rfl, Drawn0.refl _⟩
  · cases h
def strings_IndexByte.f (a0 : ByteArray) (a1 : Int) : Option Int := some (Lib.indexByte a0.data.toList a1.toNat.toUInt8)
theorem strings_IndexByte.calls (a0 : ByteArray) (a1 : Int) (r : Int) (w : World) (h : strings_IndexByte.f a0 a1 = some r) :
    Calls Tryd.prog 39 #[.string a0, .int .u8 a1] w fun e w' => e = .returned (.int .i64 r) ∧ Drawn0 w w' := by
  cases h
  refine (index39 a0 a1 w).mono ?_
  rintro e w' ⟨rfl, rfl⟩
  exact ⟨rfl, Drawn0.refl _⟩
end Go.Proofs.YtacdiamflgcnbaaDoor.Nm
