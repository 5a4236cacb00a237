/-
  The reference's Quote writes what the program's writes.
-/
import Derived.Test.YtacdiamflgcnbaaDoorNmRefs
import Derived.Test.YtacdiamflgcnbaaDoorPNax10
import Derived.Lib.LazyBuf
set_option linter.unusedVariables false
set_option linter.unusedSimpArgs false
namespace Go.Proofs.YtacdiamflgcnbaaDoor.Nm
open Go.RowKit Go.Proofs.YtacdiamflgcnbaaDoorW.PrintWords Go.Proofs.YtacdiamflgcnbaaDoorW.PrintLast Go.Proofs.YtacdiamflgcnbaaDoorW.PrintMore Go.Proofs.YtacdiamflgcnbaaDoor.PNa
/-- Bytes as numbers. -/
def ints (l : List UInt8) : List Int := l.map fun b => (b.toNat : Int)
theorem ints_append (a b : List UInt8) : ints (a ++ b) = ints a ++ ints b := by simp [ints]
theorem ints_len (a : List UInt8) : (ints a).length = a.length := by simp [ints]
theorem str_ints (l : List UInt8) : strOfNums (ints l) = ⟨l.toArray⟩ := Lib.Lz.strOfNums_map l
theorem digit_ok : ∀ b : Fin 16, flintref2_digit.f ((b.val : Nat) : Int) = some ((dig b.val).toNat : Int) := by decide +kernel
theorem and15 (b : Nat) (h : b < 256) : Go.bits .and .u8 ((b : Nat) : Int) 15 = ((b % 16 : Nat) : Int) := by
  rw [show (15 : Int) = ((15 : Nat) : Int) from rfl, u8_and_nat _ _ h (by omega)]
  have := Nat.and_two_pow_sub_one_eq_mod b 4
  rw [show (15 : Nat) = 2 ^ 4 - 1 from rfl, this]
theorem get_drop (s : ByteArray) (pos : Nat) (hp : pos < s.size) : ∃ b l, s.data.toList.drop pos = b :: l ∧ s.get! pos = b := by
  have hz : s.data.toList.length = s.size := Array.length_toList
  cases hq : s.data.toList.drop pos with
  | nil =>
    have := congrArg List.length hq
    rw [List.length_drop, hz] at this
    have h2 : s.size - pos = 0 := this
    omega
  | cons b l =>
    refine ⟨b, l, rfl, ?_⟩
    rw [Utf8W.get!_of_lt s pos hp]
    have h1 := congrArg (·[0]?) hq
    simp at h1
    have h2 : s.data[pos]? = some s[pos] := by
      rw [Array.getElem?_eq_getElem (by exact hp)]; rfl
    rw [h2] at h1
    simpa using h1
/-- The piece, as the reference sees it. -/
theorem piece_ref (s : ByteArray) (pos : Nat) (hp : pos < s.size) :
    ((Utf8.decode s pos).1 = 65533 ∧ (Utf8.decode s pos).2 = 1 → (piece s pos).data.toList = [92, 120, dig ((s.get! pos).toNat / 16), dig ((s.get! pos).toNat % 16)]) ∧
    (¬ ((Utf8.decode s pos).1 = 65533 ∧ (Utf8.decode s pos).2 = 1) →
      ((Utf8.decode s pos).1 < 32 ∨ (Utf8.decode s pos).1 = 127 → (Utf8.decode s pos).2 = 1 ∧ (piece s pos).data.toList = [92, 120, dig ((s.get! pos).toNat / 16), dig ((s.get! pos).toNat % 16)]) ∧
      ((Utf8.decode s pos).1 = 34 ∨ (Utf8.decode s pos).1 = 92 → (piece s pos).data.toList = [92, UInt8.ofNat (Utf8.decode s pos).1]) ∧
      (¬ ((Utf8.decode s pos).1 < 32 ∨ (Utf8.decode s pos).1 = 127) → ¬ ((Utf8.decode s pos).1 = 34 ∨ (Utf8.decode s pos).1 = 92) → (piece s pos).data.toList = (s.data.toList.drop pos).take (Utf8.decode s pos).2)) := by
  have hz : s.data.toList.length = s.size := Array.length_toList
  obtain ⟨b, l, hbl, hgb⟩ := get_drop s pos hp
  have hl : s.data.toList.drop pos ≠ [] := by rw [hbl]; simp
  have hd := Lib.decodeL_drop s pos
  have henc := Lib.encode_decode (s.data.toList.drop pos) hl
  have hdN := Lib.decodeL_N (s.data.toList.drop pos)
  have hpre : ∀ r : Int, pre (s.extract pos s.size) (Utf8.encode r) = true ↔ (s.data.toList.drop pos).take (Lib.encodeRune r).length = Lib.encodeRune r := by
    intro r
    rw [pre_iff, ext_toL, enc_size, encL, List.take_of_length_le (l := s.data.toList) (by omega)]
  have hqd := piece_qd s pos hp Qd.nil
  unfold piece at hqd ⊢
  simp only at hqd ⊢
  rw [hgb] at hqd ⊢
  rw [hd] at henc hdN
  rw [hbl] at *
  generalize hdd : Utf8.decode s pos = dd at *
  obtain ⟨r, wd⟩ := dd
  simp only at *
  have e3 : Lib.encodeRune ((65533 : Nat) : Int) = [239, 191, 189] := by decide
  refine ⟨?_, ?_⟩
  · rintro ⟨rfl, rfl⟩
    have hnp : pre (s.extract pos s.size) (Utf8.encode ((65533 : Nat) : Int)) = false := by
      rw [Bool.eq_false_iff]
      intro hc
      rw [hpre, e3] at hc
      simp only [List.length_cons, List.length_nil] at hc
      match l, hc, hdN with
      | c :: d :: l', hc, hdN =>
        simp only [List.take_succ_cons, List.take_zero, List.cons.injEq, and_true] at hc
        obtain ⟨rfl, rfl, rfl⟩ := hc
        have hdN2 : ((65533 : Nat), 1) = Lib.decodeN (l'.length + 3) 239 191 189 ((239 :: 191 :: 189 :: l').getD 3 (0 : UInt8)).toNat := hdN
        unfold Lib.decodeN at hdN2
        simp at hdN2
      | [c], hc, _ => simp at hc
      | [], hc, _ => simp at hc
    rw [if_pos ⟨rfl, hnp⟩]
    rfl
  · intro hbad
    have he := henc hbad
    have hyes : r = 65533 → pre (s.extract pos s.size) (Utf8.encode ((r : Nat) : Int)) = true := by
      rintro rfl
      rw [hpre, he]
      simp
    have hn : ¬ (r = 65533 ∧ pre (s.extract pos s.size) (Utf8.encode ((r : Nat) : Int)) = false) := fun hc => by rw [hyes hc.1] at hc; exact absurd hc.2 (by decide)
    rw [if_neg hn]
    refine ⟨?_, ?_, ?_⟩
    · intro h
      have hlow := enc_low r (by omega)
      rw [hlow] at he
      have hlen : ((b :: l).take wd).length = 1 := by rw [← he]; rfl
      have hw1 : wd = 1 := by
        have h1 := Lib.decodeL_le (b :: l) (by simp)
        rw [hd] at h1
        rw [List.length_take] at hlen
        omega
      subst hw1
      have hb : b = UInt8.ofNat r := by simpa using he.symm
      have hbn : b.toNat = r := by rw [hb, UInt8.toNat_ofNat']; omega
      refine ⟨rfl, ?_⟩
      rw [if_neg (by omega), if_pos h, hbn]
      rfl
    · intro h
      rw [if_pos h, toL_append, encL, enc_low r (by omega)]
      rfl
    · intro h1 h2
      rw [if_neg h2, if_neg h1, encL, he]
theorem refq_loop (s : ByteArray) (hs : s.size ≤ 100000) : ∀ (d pos : Nat) (acc : List UInt8), s.size - pos ≤ d → pos ≤ s.size → acc.length ≤ 1 + 8 * pos →
    Ev (fun k => flintref2_Quote.l0 k (s.extract pos s.size) (ints acc)) ⟨(acc ++ quoteFrom s d pos ++ [34]).toArray⟩ := by
  intro d
  have hbase : ∀ (d pos : Nat) (acc : List UInt8), pos = s.size → acc.length ≤ 1 + 8 * pos → Ev (fun k => flintref2_Quote.l0 k (s.extract pos s.size) (ints acc)) ⟨(acc ++ quoteFrom s d pos ++ [34]).toArray⟩ := by
    rintro d pos acc rfl hac
    have e1 : (s.extract s.size s.size).toList = [] := by
      rw [ByteArray.toList_eq, ext_drop, List.drop_of_length_le (by rw [show s.data.toList.length = s.size from Array.length_toList]; exact Nat.le_refl _)]
    rw [quoteFrom_end s d s.size (by omega), List.append_nil]
    refine Ev.step (f := fun _ => some ⟨(acc ++ [34]).toArray⟩) (fun k => ?_) (Ev.now _)
    simp only [flintref2_Quote.l0]
    rw [if_pos e1, if_pos (by rw [ints_len]; omega), ← str_ints, ints_append]
    rfl
  induction d with
  | zero => exact fun pos acc h1 h2 h3 => hbase 0 pos acc (by omega) h3
  | succ d ih =>
    intro pos acc h1 h2 h3
    by_cases hp : pos < s.size
    · have hw := width_pos s pos hp
      have hle := dec_le s pos hp
      have hw4 := width_le s pos
      have hps := piece_size s pos
      have hpl : (piece s pos).data.toList.length = (piece s pos).size := Array.length_toList
      obtain ⟨p1, p2⟩ := piece_ref s pos hp
      have hb0 : bt (s.extract pos s.size) 0 = (((s.get! pos).toNat : Nat) : Int) := by
        obtain ⟨b, l, hbl, hgb⟩ := get_drop s pos hp
        have e : s.extract pos s.size = ⟨(b :: l).toArray⟩ := WideShapes.bytes_inj (by rw [ext_drop, hbl])
        rw [e, hgb]
        rfl
      have hlt := (s.get! pos).toNat_lt
      have hlt2 : (s.get! pos).toNat < 256 := hlt
      have h1v := one_ev (s.extract pos s.size) (by rw [ext_sz s pos h2]; omega) (by rw [ext_sz s pos h2]; omega)
      have hR : oneR (s.extract pos s.size) = if (Utf8.decode s pos).1 = 65533 ∧ (Utf8.decode s pos).2 = 1 then (0, 0) else (((Utf8.decode s pos).1 : Int), ((Utf8.decode s pos).2 : Int)) := by
        unfold oneR; rw [ext_dec]
      rw [hR] at h1v
      have hnext := ih (pos + (Utf8.decode s pos).2) (acc ++ (piece s pos).data.toList) (by omega) (by omega) (by simp only [List.length_append]; omega)
      simp only [quoteFrom, if_pos hp]
      rw [← List.append_assoc acc]
      -- the piece in two hex digits
      have hhex : ∀ v n : Int, (Utf8.decode s pos).2 = 1 → (piece s pos).data.toList = [92, 120, dig ((s.get! pos).toNat / 16), dig ((s.get! pos).toNat % 16)] →
          Ev (fun k => flintref2_Quote.j1 k (s.extract pos s.size) (ints acc) v n true) ⟨(acc ++ (piece s pos).data.toList ++ quoteFrom s d (pos + (Utf8.decode s pos).2) ++ [34]).toArray⟩ := by
        intro v n hw1 hpc
        refine Ev.step (fun k => ?_) hnext
        have d1 := digit_ok ⟨(s.get! pos).toNat / 16, by omega⟩
        have d2 := digit_ok ⟨(s.get! pos).toNat % 16, by omega⟩
        simp only at d1 d2
        have z : (s.extract pos s.size).size = s.size - pos := ext_sz s pos h2
        simp only [flintref2_Quote.j1, if_true]
        rw [if_pos (by rw [z]; omega), hb0, show (((s.get! pos).toNat : Nat) : Int) / 16 = (((s.get! pos).toNat / 16 : Nat) : Int) by omega, and15 _ hlt2, d1, d2]
        simp only [Option.bind_some]
        rw [if_pos (by rw [ints_len]; simp; omega), if_pos (by rw [z]; omega), hpc, ints_append, hw1]
        have e := ext_ext s pos 1
        rw [e]
        rfl
      refine Ev.step (f := fun k => (flintref2_One.f k (s.extract pos s.size)).bind fun bt249 => (if bt249.2 = 0 then (flintref2_Quote.j1 k (s.extract pos s.size) (ints acc) bt249.1 bt249.2 true) else (if bt249.1 < 32 then (flintref2_Quote.j1 k (s.extract pos s.size) (ints acc) bt249.1 bt249.2 true) else (flintref2_Quote.j1 k (s.extract pos s.size) (ints acc) bt249.1 bt249.2 (bt249.1 == 127))))) (fun k => ?_) (Ev.bind h1v ?_)
      · simp only [flintref2_Quote.l0]
        rw [if_neg (ext_nil s pos hp)]
      · by_cases hb : (Utf8.decode s pos).1 = 65533 ∧ (Utf8.decode s pos).2 = 1
        · simp only [if_pos hb, if_true]
          exact hhex 0 0 hb.2 (p1 hb)
        · simp only [if_neg hb]
          obtain ⟨p3, p4, p5⟩ := p2 hb
          have c1 : ¬ ((Utf8.decode s pos).2 : Int) = 0 := by omega
          simp only [if_neg c1]
          by_cases hh : (Utf8.decode s pos).1 < 32 ∨ (Utf8.decode s pos).1 = 127
          · obtain ⟨w1, pc⟩ := p3 hh
            by_cases h32 : ((Utf8.decode s pos).1 : Int) < 32
            · simp only [if_pos h32]
              exact hhex _ _ w1 pc
            · simp only [if_neg h32]
              have e : (((Utf8.decode s pos).1 : Int) == 127) = true := by simp; omega
              rw [e]
              exact hhex _ _ w1 pc
          · have h32 : ¬ ((Utf8.decode s pos).1 : Int) < 32 := by omega
            have e : (((Utf8.decode s pos).1 : Int) == 127) = false := by simp; omega
            simp only [if_neg h32, e]
            have z : (s.extract pos s.size).size = s.size - pos := ext_sz s pos h2
            have c3 : (0 : Int) ≤ ((Utf8.decode s pos).2 : Int) := by omega
            have c4 : ((Utf8.decode s pos).2 : Int) ≤ ((s.extract pos s.size).size : Int) := by rw [z]; omega
            refine Ev.step (fun k => ?_) hnext
            simp only [flintref2_Quote.j1, Bool.false_eq_true, if_false]
            by_cases hq : (Utf8.decode s pos).1 = 34 ∨ (Utf8.decode s pos).1 = 92
            · have hpc := p4 hq
              by_cases h34 : ((Utf8.decode s pos).1 : Int) = 34
              · have h34' : (Utf8.decode s pos).1 = 34 := by omega
                rw [if_pos h34]
                simp only [Option.bind_some]
                rw [if_pos (by rw [ints_len]; simp; omega), if_pos c3, if_pos c4, hpc, ints_append, Int.toNat_natCast, ext_ext, h34']
                rfl
              · have h92' : (Utf8.decode s pos).1 = 92 := by omega
                rw [if_neg h34, if_pos (by omega)]
                simp only [Option.bind_some]
                rw [if_pos (by rw [ints_len]; simp; omega), if_pos c3, if_pos c4, hpc, ints_append, Int.toNat_natCast, ext_ext, h92']
                rfl
            · have hpc := p5 hh hq
              have hb1 : ((s.extract pos s.size).extract 0 ((Utf8.decode s pos).2)).data.toList = (piece s pos).data.toList := by
                rw [hpc, ext_toL, List.drop_zero, ext_drop]
              have hsz : ((s.extract pos s.size).extract 0 ((Utf8.decode s pos).2)).size ≤ 8 := by
                have : ((s.extract pos s.size).extract 0 ((Utf8.decode s pos).2)).data.toList.length = ((s.extract pos s.size).extract 0 ((Utf8.decode s pos).2)).size := Array.length_toList
                rw [← this, hb1, hpl]; exact hps
              rw [if_neg (by omega), if_neg (by omega), if_pos c3, if_pos c4, Int.toNat_natCast, if_pos (by rw [ints_len]; omega), ext_ext]
              unfold bytesOf
              rw [hb1, ints_append]
              rfl
    · exact hbase (d + 1) pos acc (by omega) h3
theorem ref_quote (s : ByteArray) (hs : s.size ≤ 100000) : Ev (fun k => flintref2_Quote.f k s) ⟨(quoteL s).toArray⟩ := by
  have := refq_loop s hs s.size 0 [34] (by omega) (by omega) (by simp)
  have e : s.extract 0 s.size = s := by
    apply WideShapes.bytes_inj
    rw [ext_drop]; rfl
  rw [e] at this
  exact this
end Go.Proofs.YtacdiamflgcnbaaDoor.Nm
