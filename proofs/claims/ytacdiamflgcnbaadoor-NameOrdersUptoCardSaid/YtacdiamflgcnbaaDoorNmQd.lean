/-
  How a quoted text is made, byte by byte: no two texts are quoted alike.
-/
import Derived.Test.YtacdiamflgcnbaaDoorNmQuote
import Derived.Lib.MapLaws
import Derived.Lib.TrimUEq
import Derived.Lib.ValidLaws
set_option linter.unusedVariables false
set_option linter.unusedSimpArgs false
namespace Go.Proofs.YtacdiamflgcnbaaDoor.Nm
open Go.RowKit Go.Proofs.YtacdiamflgcnbaaDoorW.PrintWords
/-- t, quoted (what stands between the quotes). -/
inductive Qd : List UInt8 → List UInt8 → Prop where
  | nil : Qd [] []
  | hex (c : UInt8) (t o : List UInt8) (h : Qd t o) : Qd (c :: t) (92 :: 120 :: dig (c.toNat / 16) :: dig (c.toNat % 16) :: o)
  | esc (c : UInt8) (t o : List UInt8) (hc : c = 34 ∨ c = 92) (h : Qd t o) : Qd (c :: t) (92 :: c :: o)
  | raw (c : UInt8) (t o : List UInt8) (h1 : c ≠ 92) (h2 : c ≠ 34) (h : Qd t o) : Qd (c :: t) (c :: o)
theorem dig_inj : ∀ a b : Fin 16, dig a.val = dig b.val → a = b := by decide +kernel
theorem byte_of (c d : UInt8) (h1 : dig (c.toNat / 16) = dig (d.toNat / 16)) (h2 : dig (c.toNat % 16) = dig (d.toNat % 16)) : c = d := by
  have hc := c.toNat_lt
  have hd := d.toNat_lt
  have a := dig_inj ⟨c.toNat / 16, by omega⟩ ⟨d.toNat / 16, by omega⟩ h1
  have b := dig_inj ⟨c.toNat % 16, by omega⟩ ⟨d.toNat % 16, by omega⟩ h2
  simp only [Fin.mk.injEq] at a b
  apply UInt8.toNat_inj.1
  omega
theorem Qd.inj {t o : List UInt8} (h : Qd t o) : ∀ {t2 : List UInt8}, Qd t2 o → t = t2 := by
  induction h with
  | nil => intro t2 h2; cases h2; rfl
  | hex c t o _ ih =>
    intro t2 h2
    generalize hq : (92 :: 120 :: dig (c.toNat / 16) :: dig (c.toNat % 16) :: o) = q at h2
    cases h2 with
    | nil => cases hq
    | hex d t' o' h' =>
      simp only [List.cons.injEq, true_and] at hq
      obtain ⟨e1, e2, rfl⟩ := hq
      rw [byte_of c d e1 e2, ih h']
    | esc d t' o' hd h' =>
      simp only [List.cons.injEq, true_and] at hq
      rcases hd with rfl | rfl <;> exact absurd hq.1 (by decide)
    | raw d t' o' h1 h2 h' =>
      simp only [List.cons.injEq] at hq
      exact absurd hq.1.symm h1
  | esc c t o hc _ ih =>
    intro t2 h2
    generalize hq : (92 :: c :: o) = q at h2
    cases h2 with
    | nil => cases hq
    | hex d t' o' h' =>
      simp only [List.cons.injEq, true_and] at hq
      rcases hc with rfl | rfl <;> exact absurd hq.1 (by decide)
    | esc d t' o' hd h' =>
      simp only [List.cons.injEq, true_and] at hq
      obtain ⟨rfl, rfl⟩ := hq
      rw [ih h']
    | raw d t' o' h1 h2 h' =>
      simp only [List.cons.injEq] at hq
      exact absurd hq.1.symm h1
  | raw c t o hc1 hc2 _ ih =>
    intro t2 h2
    generalize hq : (c :: o) = q at h2
    cases h2 with
    | nil => cases hq
    | hex d t' o' h' =>
      simp only [List.cons.injEq] at hq
      exact absurd hq.1 hc1
    | esc d t' o' hd h' =>
      simp only [List.cons.injEq] at hq
      exact absurd hq.1 hc1
    | raw d t' o' h1 h2 h' =>
      simp only [List.cons.injEq] at hq
      obtain ⟨rfl, rfl⟩ := hq
      rw [ih h']
theorem Qd.raws {l t o : List UInt8} (hl : ∀ b ∈ l, b ≠ 92 ∧ b ≠ 34) (h : Qd t o) : Qd (l ++ t) (l ++ o) := by
  induction l with
  | nil => exact h
  | cons b l ih => exact .raw b _ _ (hl b (by simp)).1 (hl b (by simp)).2 (ih (fun x hx => hl x (by simp [hx])))
theorem encL (r : Int) : (Utf8.encode r).data.toList = Lib.encodeRune r := by
  by_cases h : (0 ≤ r ∧ r < 55296) ∨ (57343 < r ∧ r ≤ 1114111)
  · obtain ⟨n, rfl⟩ := Int.eq_ofNat_of_zero_le (show 0 ≤ r by omega)
    have hv : Utf8.valid (n : Int) = true := by
      simp only [Utf8.valid, Bool.and_eq_true, Bool.or_eq_true, decide_eq_true_eq]
      omega
    unfold Utf8.encode Lib.encodeRune
    simp only [hv, if_true, Int.toNat_natCast]
    have e64 : ∀ a k : Nat, (((a : Nat) : Int) + (k : Int)).toNat = a + k := fun a k => by omega
    by_cases h1 : n < 128
    · rw [if_pos h1, Lib.encodeRuneZ_one (by omega) (by omega)]
      rfl
    · by_cases h2 : n < 2048
      · rw [if_neg h1, if_pos h2, Lib.encodeRuneZ_two (by omega) (by omega)]
        simp only [List.map_cons, List.map_nil, Nat.toUInt8]
        rw [show (192 + (n : Int) / 64).toNat = 192 + n / 64 by omega, show (128 + (n : Int) % 64).toNat = 128 + n % 64 by omega]
      · by_cases h3 : n < 65536
        · rw [if_neg h1, if_neg h2, if_pos h3, Lib.encodeRuneZ_three (by omega)]
          simp only [List.map_cons, List.map_nil, Nat.toUInt8]
          rw [show (224 + (n : Int) / 4096).toNat = 224 + n / 4096 by omega, show (128 + (n : Int) / 64 % 64).toNat = 128 + n / 64 % 64 by omega, show (128 + (n : Int) % 64).toNat = 128 + n % 64 by omega]
        · rw [if_neg h1, if_neg h2, if_neg h3, Lib.encodeRuneZ_four (by omega) (by omega)]
          simp only [List.map_cons, List.map_nil, Nat.toUInt8]
          rw [show (240 + (n : Int) / 262144).toNat = 240 + n / 262144 by omega, show (128 + (n : Int) / 4096 % 64).toNat = 128 + n / 4096 % 64 by omega, show (128 + (n : Int) / 64 % 64).toNat = 128 + n / 64 % 64 by omega, show (128 + (n : Int) % 64).toNat = 128 + n % 64 by omega]
  · have hv : Utf8.valid r = false := by
      rw [Bool.eq_false_iff]
      simp only [Utf8.valid, ne_eq, Bool.and_eq_true, Bool.or_eq_true, decide_eq_true_eq]
      omega
    unfold Utf8.encode Lib.encodeRune
    rw [Lib.encodeRuneZ_bad (by omega)]
    simp only [hv, Bool.false_eq_true, if_false]
    rfl
theorem toL_append (a b : ByteArray) : (a ++ b).data.toList = a.data.toList ++ b.data.toList := by simp
theorem ext_toL (s : ByteArray) (a b : Nat) : (s.extract a b).data.toList = (s.data.toList.take b).drop a := by
  rw [ByteArray.data_extract, Array.toList_extract, List.extract_eq_take_drop, List.drop_take]
theorem pre_iff (s p : ByteArray) : pre s p = true ↔ s.data.toList.take p.size = p.data.toList := by
  unfold pre
  have hz : s.data.toList.length = s.size := Array.length_toList
  have hp : p.data.toList.length = p.size := Array.length_toList
  rw [ByteArray.toList_eq, ByteArray.toList_eq, ext_toL]
  simp only [List.drop_zero, Bool.and_eq_true, decide_eq_true_eq, beq_iff_eq]
  refine ⟨fun h => h.2, fun h => ⟨?_, h⟩⟩
  have := congrArg List.length h
  simp at this
  have e1 : s.size = s.data.size := rfl
  have e2 : p.size = p.data.size := rfl
  omega
theorem enc_size (r : Int) : (Utf8.encode r).size = (Lib.encodeRune r).length := by
  rw [← encL]; exact Array.length_toList.symm
theorem raw_bytes (r : Nat) (h1 : r ≠ 92) (h2 : r ≠ 34) : ∀ b ∈ Lib.encodeRune (r : Int), b ≠ 92 ∧ b ≠ 34 := by
  have key : ∀ x : Int, x ∈ Lib.encodeRuneZ (r : Int) → x ≠ 92 ∧ x ≠ 34 ∧ 0 ≤ x ∧ x < 256 := by
    intro x hx
    have hb := Lib.encodeRuneZ_byte _ x hx
    unfold Lib.encodeRuneZ at hx
    split at hx
    · simp at hx; omega
    · split at hx
      · simp at hx; omega
      · split at hx
        · simp at hx; omega
        · split at hx
          · simp at hx; omega
          · simp at hx; omega
  intro b hb
  unfold Lib.encodeRune at hb
  obtain ⟨x, hx, rfl⟩ := List.mem_map.1 hb
  obtain ⟨k1, k2, k3, k4⟩ := key x hx
  constructor
  · intro e
    have := congrArg UInt8.toNat e
    simp [Nat.toUInt8, UInt8.toNat_ofNat'] at this
    omega
  · intro e
    have := congrArg UInt8.toNat e
    simp [Nat.toUInt8, UInt8.toNat_ofNat'] at this
    omega
theorem enc_low (r : Nat) (h : r < 128) : Lib.encodeRune (r : Int) = [UInt8.ofNat r] := by
  unfold Lib.encodeRune
  rw [Lib.encodeRuneZ_one (by omega) (by omega)]
  rfl
/-- One rune's piece. -/
theorem piece_qd (s : ByteArray) (pos : Nat) (hp : pos < s.size) {t o : List UInt8} (h : Qd t o) : Qd ((s.data.toList.drop pos).take (Utf8.decode s pos).2 ++ t) ((piece s pos).data.toList ++ o) := by
  have hz : s.data.toList.length = s.size := Array.length_toList
  have hl : s.data.toList.drop pos ≠ [] := by
    intro e
    have := congrArg List.length e
    rw [List.length_drop, hz] at this
    simp at this
    omega
  have hd := Lib.decodeL_drop s pos
  have hgd : s.get! pos = (s.data.toList.drop pos).getD 0 0 := by
    rw [Utf8W.get!_of_lt s pos hp]
    have h2 : s.data.toList[pos]? = some s[pos] := by
      rw [List.getElem?_eq_getElem (by rw [hz]; exact hp)]; rfl
    simp [List.getD, h2]
  have henc := Lib.encode_decode (s.data.toList.drop pos) hl
  have hdN := Lib.decodeL_N (s.data.toList.drop pos)
  have hpre : ∀ r : Int, pre (s.extract pos s.size) (Utf8.encode r) = true ↔ (s.data.toList.drop pos).take (Lib.encodeRune r).length = Lib.encodeRune r := by
    intro r
    rw [pre_iff, ext_toL, enc_size, encL, List.take_of_length_le (l := s.data.toList) (by omega)]
  unfold piece
  simp only
  rw [hgd]
  rw [hd] at henc hdN
  generalize hL : s.data.toList.drop pos = L at *
  generalize hdd : Utf8.decode s pos = dd at *
  obtain ⟨r, wd⟩ := dd
  simp only at *
  obtain ⟨b, l, rfl⟩ : ∃ b l, L = b :: l := by
    cases L with
    | nil => exact absurd rfl hl
    | cons b l => exact ⟨b, l, rfl⟩
  have hx : ∀ c : UInt8, Qd ([c] ++ t) ((hexB c.toNat).data.toList ++ o) := fun c => Qd.hex c t o h
  have e3 : Lib.encodeRune ((65533 : Nat) : Int) = [239, 191, 189] := by decide
  by_cases hbad : r = 65533 ∧ wd = 1
  · obtain ⟨rfl, rfl⟩ := hbad
    have hnp : pre (s.extract pos s.size) (Utf8.encode ((65533 : Nat) : Int)) = false := by
      rw [Bool.eq_false_iff]
      intro hc
      rw [hpre, e3] at hc
      simp only [List.length_cons, List.length_nil] at hc
      match l, hc, hdN with
      | c :: d :: l', hc, hdN =>
        simp only [List.take_succ_cons, List.take_zero, List.cons.injEq, and_true] at hc
        obtain ⟨rfl, rfl, rfl⟩ := hc
        have hdN2 : ((65533 : Nat), 1) = Lib.decodeN (l'.length + 3) 239 191 189 ((239 :: 191 :: 189 :: l').getD 3 (0 : UInt8)).toNat := hdN
        unfold Lib.decodeN at hdN2
        simp at hdN2
      | [c], hc, _ => simp at hc
      | [], hc, _ => simp at hc
    rw [if_pos ⟨rfl, hnp⟩]
    exact hx b
  · have he := henc hbad
    have hyes : r = 65533 → pre (s.extract pos s.size) (Utf8.encode ((r : Nat) : Int)) = true := by
      rintro rfl
      rw [hpre, he]
      simp
    rw [if_neg (fun hc => by rw [hyes hc.1] at hc; exact absurd hc.2 (by decide)), ← he]
    by_cases h1 : r = 34 ∨ r = 92
    · rw [if_pos h1, toL_append, encL]
      rcases h1 with rfl | rfl
      · exact Qd.esc 34 t o (.inl rfl) h
      · exact Qd.esc 92 t o (.inr rfl) h
    · rw [if_neg h1]
      by_cases h2 : r < 32 ∨ r = 127
      · rw [if_pos h2, enc_low r (by omega)]
        have e : (UInt8.ofNat r).toNat = r := by rw [UInt8.toNat_ofNat']; omega
        have := hx (UInt8.ofNat r)
        rw [e] at this
        exact this
      · rw [if_neg h2, encL]
        exact Qd.raws (raw_bytes r (by omega) (by omega)) h
theorem from_qd (s : ByteArray) : ∀ (f pos : Nat), s.size ≤ pos + f → Qd (s.data.toList.drop pos) (quoteFrom s f pos) := by
  intro f
  have hz : s.data.toList.length = s.size := Array.length_toList
  induction f with
  | zero =>
    intro pos h
    rw [List.drop_of_length_le (by omega)]
    exact .nil
  | succ f ih =>
    intro pos h
    by_cases hp : pos < s.size
    · simp only [quoteFrom, if_pos hp]
      have hw := width_pos s pos hp
      have := piece_qd s pos hp (ih (pos + (Utf8.decode s pos).2) (by omega))
      rwa [← List.drop_drop, List.take_append_drop] at this
    · rw [quoteFrom_end s _ pos hp, List.drop_of_length_le (by omega)]
      exact .nil
theorem quote_qd (s : ByteArray) : Qd s.data.toList (quoteFrom s s.size 0) := by
  have := from_qd s s.size 0 (by omega)
  simpa using this
theorem quote_inj {a b : ByteArray} (h : quoteL a = quoteL b) : a = b := by
  unfold quoteL at h
  have h2 : quoteFrom a a.size 0 = quoteFrom b b.size 0 := by simpa using h
  have h3 := quote_qd a
  rw [h2] at h3
  exact WideShapes.bytes_inj (h3.inj (quote_qd b))
end Go.Proofs.YtacdiamflgcnbaaDoor.Nm
