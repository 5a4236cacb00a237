/-
  Keys, and back.
-/
import Derived.Test.YtacdiamflgcnbaaDoorPNbKeys
import Derived.Test.YtacdiamflgcnbaaDoorNmLaw6
import Derived.Laws.BitsAllLaws
set_option linter.unusedVariables false
set_option linter.unusedSimpArgs false
namespace Go.Proofs.YtacdiamflgcnbaaDoor.Pure
open Go.RowKit Go.Proofs.YtacdiamflgcnbaaDoor.PNa Go.Proofs.YtacdiamflgcnbaaDoor.Nm Go.Proofs.YtacdiamflgcnbaaDoorW.PrintWords Go.Proofs.YtacdiamflgcnbaaDoorW.PrintLast Go.Proofs.YtacdiamflgcnbaaDoorW.PrintMore
namespace Keys
theorem w64 {i : Int} (h0 : 0 ≤ i) (h1 : i < 1000000) : wrap64 i = i := by unfold wrap64; omega
theorem known_ev : Ev (fun k => flintlaw2_known.f k) true := Ev.of flintlaw2_known.mono known61
theorem read_loop (s : ByteArray) (hs : s.size ≤ 100000) (a : Nat) (ha : a ≤ s.size) : ∀ (d i : Nat) (v : Int), s.size - i ≤ d → i ≤ s.size → ∃ r, Ev (fun k => name_ReadKey.l0 k s a v i) r ∧ Ev (fun k => flintref2_ReadKey.l0 k s a v i) r := by
  intro d
  have hbase : ∀ (i : Nat) (v : Int), s.size ≤ i → ∃ r, Ev (fun k => name_ReadKey.l0 k s a v i) r ∧ Ev (fun k => flintref2_ReadKey.l0 k s a v i) r := by
    intro i v h
    refine ⟨(s.extract 0 a, v, 0), Ev.step (f := fun _ => some (s.extract 0 a, v, 0)) (fun k => ?_) (Ev.now _), Ev.step (f := fun _ => some (s.extract 0 a, v, 0)) (fun k => ?_) (Ev.now _)⟩
    · simp only [name_ReadKey.l0]
      rw [if_neg (by omega), if_pos (by omega), if_pos (by omega)]
      simp
    · simp only [flintref2_ReadKey.l0]
      rw [if_neg (by omega), if_pos (by omega), if_pos (by omega)]
      simp
  induction d with
  | zero => exact fun i v h1 h2 => hbase i v (by omega)
  | succ d ih =>
    intro i v h1 h2
    by_cases hi : i < s.size
    · obtain ⟨r, r1, r2⟩ := ih (i + 1) (Go.bits .or .u64 (IntKind.u64.wrap (v * 256)) (IntKind.u64.wrap (bt s i))) (by omega) (by omega)
      refine ⟨r, Ev.step (fun k => ?_) r1, Ev.step (fun k => ?_) r2⟩
      · simp only [name_ReadKey.l0]
        rw [if_pos (by omega), if_pos (by omega), w64 (by omega) (by omega)]
        rfl
      · simp only [flintref2_ReadKey.l0]
        rw [if_pos (by omega), if_pos (by omega), w64 (by omega) (by omega)]
        rfl
    · exact hbase i v (by omega)
theorem read_same (s : ByteArray) (hs : s.size ≤ 100000) : ∃ r, Ev (fun k => name_ReadKey.f k s) r ∧ Ev (fun k => flintref2_ReadKey.f k s) r := by
  unfold name_ReadKey.f flintref2_ReadKey.f
  by_cases h9 : (s.size : Int) - 9 < 0
  · have e : wrap64 ((s.size : Int) - 9) = (s.size : Int) - 9 := by unfold wrap64; omega
    simp only [e, if_pos h9]
    refine ⟨_, Ev.step (f := fun _ => some ((⟨#[]⟩ : ByteArray), 0, 24)) (fun k => ?_) (Ev.now _), Ev.step (f := fun _ => some ((⟨#[]⟩ : ByteArray), 0, 24)) (fun k => ?_) (Ev.now _)⟩
    · simp [name_ReadKey.j0]
    · simp [flintref2_ReadKey.j0]
  · have e : wrap64 ((s.size : Int) - 9) = ((s.size - 9 : Nat) : Int) := by unfold wrap64; omega
    have c1 : ¬ ((s.size - 9 : Nat) : Int) < 0 := by omega
    have c2 : (0 : Int) ≤ ((s.size - 9 : Nat) : Int) := by omega
    have c3 : ((s.size - 9 : Nat) : Int) < (s.size : Int) := by omega
    simp only [e, if_neg c1, if_pos c2, if_pos c3]
    by_cases hb : (bt s ((s.size - 9 : Nat) : Int) != 0) = true
    · rw [hb]
      refine ⟨_, Ev.step (f := fun _ => some ((⟨#[]⟩ : ByteArray), 0, 24)) (fun k => ?_) (Ev.now _), Ev.step (f := fun _ => some ((⟨#[]⟩ : ByteArray), 0, 24)) (fun k => ?_) (Ev.now _)⟩
      · simp [name_ReadKey.j0]
      · simp [flintref2_ReadKey.j0]
    · rw [Bool.not_eq_true] at hb
      rw [hb]
      obtain ⟨r, r1, r2⟩ := read_loop s hs (s.size - 9) (by omega) s.size (s.size - 9 + 1) 0 (by omega) (by omega)
      refine ⟨r, Ev.step (fun k => ?_) r1, Ev.step (fun k => ?_) r2⟩
      · simp only [name_ReadKey.j0]
        rw [if_neg (by decide), w64 (by omega) (by omega)]
        rfl
      · simp only [flintref2_ReadKey.j0]
        rw [if_neg (by decide), w64 (by omega) (by omega)]
        rfl
theorem bt_mk (l : List UInt8) (i : Nat) (h : i < l.length) : bt ⟨l.toArray⟩ (i : Int) = ((l[i]).toNat : Int) := by
  unfold bt
  have : ((i : Int)).toNat < (⟨l.toArray⟩ : ByteArray).size := by rw [Int.toNat_natCast]; exact h
  rw [dif_pos this]
  rfl
theorem or_add (a b : Nat) (h : b < 256) : a * 256 ||| b = a * 256 + b := by
  have := Nat.two_pow_add_eq_or_of_lt (i := 8) h a
  rw [Nat.mul_comm a 256]
  exact this.symm
theorem key_size (l : List UInt8) (n : Nat) : (keyL l n 8).length = l.length + 9 := by simp [keyL]
theorem key_at (l : List UInt8) (n j : Nat) (hj : j < 8) : (keyL l n 8)[l.length + 1 + j]'(by rw [key_size]; omega) = keyB n j := by
  simp only [keyL]
  rw [List.getElem_append_right (by simp)]
  simp
theorem key_zero (l : List UInt8) (n : Nat) : (keyL l n 8)[l.length]'(by rw [key_size]; omega) = 0 := by
  simp [keyL]
theorem back_loop (l : List UInt8) (n : Nat) (hn : n < 18446744073709551616) (hl : l.length ≤ 90000) : ∀ (d j : Nat), j + d = 8 → Ev (fun k => name_ReadKey.l0 k ⟨(keyL l n 8).toArray⟩ l.length ((n / 2 ^ (64 - 8 * j) : Nat) : Int) ((l.length + 1 + j : Nat) : Int)) (⟨l.toArray⟩, (n : Int), 0) := by
  have hz : (⟨(keyL l n 8).toArray⟩ : ByteArray).size = l.length + 9 := key_size l n
  intro d
  induction d with
  | zero =>
    intro j h
    obtain rfl : j = 8 := by omega
    refine Ev.step (f := fun _ => some (⟨l.toArray⟩, (n : Int), 0)) (fun k => ?_) (Ev.now _)
    simp only [name_ReadKey.l0]
    rw [if_neg (by rw [hz]; omega), if_pos (by omega), if_pos (by rw [hz]; omega)]
    have e : (⟨(keyL l n 8).toArray⟩ : ByteArray).extract 0 ((l.length : Nat) : Int).toNat = ⟨l.toArray⟩ := by
      apply WideShapes.bytes_inj
      rw [ext_toL, Int.toNat_natCast, mk_toL, mk_toL]
      simp [keyL]
    rw [e]
    simp
  | succ d ih =>
    intro j h
    have hj : j < 8 := by omega
    refine Ev.step (fun k => ?_) (ih (j + 1) (by omega))
    simp only [name_ReadKey.l0]
    rw [if_pos (by rw [hz]; omega), if_pos (by omega), w64 (by omega) (by omega), bt_mk _ _ (by rw [key_size]; omega), key_at l n j hj, keyB_toNat]
    have hlt : n / 2 ^ (64 - 8 * j) * 256 < 18446744073709551616 := by
      have : n / 2 ^ (64 - 8 * j) < 2 ^ (8 * j) := by
        rw [Nat.div_lt_iff_lt_mul (Nat.two_pow_pos _), ← Nat.pow_add, show 8 * j + (64 - 8 * j) = 64 by omega]
        exact hn
      have h2 : 2 ^ (8 * j) ≤ 2 ^ 56 := Nat.pow_le_pow_right (by omega) (by omega)
      omega
    have e1 : IntKind.u64.wrap (((n / 2 ^ (64 - 8 * j) : Nat) : Int) * 256) = ((n / 2 ^ (64 - 8 * j) * 256 : Nat) : Int) := by
      show (((n / 2 ^ (64 - 8 * j) : Nat) : Int) * 256) % 18446744073709551616 = _
      omega
    have e2 : IntKind.u64.wrap ((n / 2 ^ (56 - 8 * j) % 256 : Nat) : Int) = ((n / 2 ^ (56 - 8 * j) % 256 : Nat) : Int) := by
      show ((n / 2 ^ (56 - 8 * j) % 256 : Nat) : Int) % 18446744073709551616 = _
      omega
    rw [e1, e2, u64_or_nat _ _ hlt (by omega), or_add _ _ (by omega)]
    have e3 : n / 2 ^ (64 - 8 * j) * 256 + n / 2 ^ (56 - 8 * j) % 256 = n / 2 ^ (64 - 8 * (j + 1)) := by
      rw [show 64 - 8 * (j + 1) = 56 - 8 * j by omega, show 64 - 8 * j = (56 - 8 * j) + 8 by omega, Nat.pow_add, ← Nat.div_div_eq_div_mul]
      omega
    rw [e3]
    rfl
theorem read_back (s : ByteArray) (n : Nat) (hn : n < 18446744073709551616) (hs : s.size ≤ 90000) : Ev (fun k => name_ReadKey.f k ⟨(keyL s.data.toList n 8).toArray⟩) (s, (n : Int), 0) := by
  have hl : s.data.toList.length = s.size := Array.length_toList
  have hz : (⟨(keyL s.data.toList n 8).toArray⟩ : ByteArray).size = s.size + 9 := by rw [← hl]; exact key_size _ n
  unfold name_ReadKey.f
  have e : wrap64 (((⟨(keyL s.data.toList n 8).toArray⟩ : ByteArray).size : Int) - 9) = (s.size : Int) := by rw [hz]; unfold wrap64; omega
  have c1 : ¬ (s.size : Int) < 0 := by omega
  have c2 : (0 : Int) ≤ (s.size : Int) := by omega
  have c3 : (s.size : Int) < ((⟨(keyL s.data.toList n 8).toArray⟩ : ByteArray).size : Int) := by rw [hz]; omega
  simp only [e, if_neg c1, if_pos c2, if_pos c3]
  have hb : (bt ⟨(keyL s.data.toList n 8).toArray⟩ (s.size : Int) != 0) = false := by
    rw [← hl, bt_mk _ _ (by rw [key_size]; omega), key_zero]
    rfl
  rw [hb]
  have h0 := back_loop s.data.toList n hn (by omega) 8 0 rfl
  rw [hl] at h0
  refine Ev.step (fun k => ?_) h0
  simp only [name_ReadKey.j0]
  rw [if_neg (by decide), w64 (by omega) (by omega), show n / 2 ^ (64 - 8 * 0) = 0 from Nat.div_eq_of_lt hn]
  rfl
end Keys
open Keys
theorem NameKeys : flintlaw2_NameKeys.Pure := by
  intro s n' k' hs hn hk
  have hn1 : 0 ≤ n' ∧ n' < 18446744073709551616 := by
    have h2 : IntKind.u64.min = 0 := rfl
    have h3 : IntKind.u64.max = 18446744073709551615 := rfl
    simp [Lit.wf, h2, h3] at hn; omega
  obtain ⟨n, rfl⟩ := Int.eq_ofNat_of_zero_le hn1.1
  refine Ev.rounds (g := fun k => flintlaw2_NameKeys.f k s n k') ?_
  unfold flintlaw2_NameKeys.f
  refine Ev.bind known_ev ?_
  simp only [if_true]
  by_cases h1 : (s.size : Int) > 32768
  · simp only [if_pos h1]
    refine Ev.step (f := fun _ => some true) (fun k => ?_) (Ev.now _)
    simp [flintlaw2_NameKeys.j0]
  · simp only [if_neg h1]
    by_cases h2 : (k'.size : Int) > 32768
    · rw [decide_eq_true h2]
      refine Ev.step (f := fun _ => some true) (fun k => ?_) (Ev.now _)
      simp [flintlaw2_NameKeys.j0]
    · rw [decide_eq_false h2]
      obtain ⟨⟨r1, r2, r3⟩, e1, e2⟩ := read_same k' (by omega)
      have hkey : name_Key.f s (n : Int) = some ⟨(keyL s.data.toList n 8).toArray⟩ := by
        unfold name_Key.f
        rw [if_pos ⟨by omega, by omega, by omega⟩]
        rfl
      have hkey2 : flintref2_Key.f s (n : Int) = some ⟨(keyL s.data.toList n 8).toArray⟩ := by
        unfold flintref2_Key.f
        rw [if_pos ⟨by omega, by omega, by omega⟩]
        rfl
      refine Ev.step (f := fun k => (name_ReadKey.f k k').bind fun bt219 => ((flintref2_ReadKey.f k k').bind fun bt222 => (if bt219.1.toList = bt222.1.toList then (if bt219.2.1 = bt222.2.1 then (if bt219.2.2 = bt222.2.2 then flintlaw2_NameKeys.j1 k s n false else (flintlaw2_NameKeys.j1 k s n true)) else (flintlaw2_NameKeys.j1 k s n true)) else (flintlaw2_NameKeys.j1 k s n true)))) (fun k => ?_) ?_
      · simp only [flintlaw2_NameKeys.j0, hkey, hkey2, Option.bind_some]
        simp
      · refine Ev.bind (a := (r1, r2, r3)) e1 (Ev.bind (a := (r1, r2, r3)) e2 ?_)
        simp only [if_true]
        refine Ev.step (f := fun k => (name_ReadKey.f k ⟨(keyL s.data.toList n 8).toArray⟩).bind fun bt228 => (if bt228.2.2 = 0 then (if bt228.1.toList = s.toList then (some (bt228.2.1 == (n : Int))) else (some false)) else (some false))) (fun k => ?_) ?_
        · simp only [flintlaw2_NameKeys.j1, hkey, Option.bind_some]
          simp
        · refine Ev.bind (a := (s, (n : Int), 0)) (read_back s n (by omega) (by omega)) ?_
          simp only [if_true, beq_self_eq_true]
          exact Ev.now _
end Go.Proofs.YtacdiamflgcnbaaDoor.Pure
