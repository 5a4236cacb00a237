/-
  The reference's One tells the model's own rune.
-/
import Derived.Test.YtacdiamflgcnbaaDoorPNax5
import Derived.Test.YtacdiamflgcnbaaDoorNmQd
import Derived.Lib.DecodeN
import Derived.Laws.BitsAllLaws
set_option linter.unusedVariables false
set_option linter.unusedSimpArgs false
namespace Go.Proofs.YtacdiamflgcnbaaDoor.Nm
open Go.RowKit Go.Proofs.YtacdiamflgcnbaaDoorW.PrintWords Go.Proofs.YtacdiamflgcnbaaDoorW.PrintLast Go.Proofs.YtacdiamflgcnbaaDoorW.PrintMore Go.Proofs.YtacdiamflgcnbaaDoor.PNa
theorem w64 {i : Int} (h0 : 0 ≤ i) (h1 : i < 100000000) : wrap64 i = i := by unfold wrap64; omega
theorem i64_or_small (a b : Nat) (ha : a < 1099511627776) (hb : b < 1099511627776) : Go.bits .or .i64 (a : Int) (b : Int) = ((a ||| b : Nat) : Int) := by
  have hx : a ||| b < 2 ^ 40 := Nat.or_lt_two_pow (by omega) (by omega)
  show IntKind.i64.wrap ((BitVec.ofInt 64 (a : Int) ||| BitVec.ofInt 64 (b : Int)).toNat : Int) = _
  have e1 : (BitVec.ofInt 64 (a : Int)).toNat = a := by rw [BitVec.toNat_ofInt]; omega
  have e2 : (BitVec.ofInt 64 (b : Int)).toNat = b := by rw [BitVec.toNat_ofInt]; omega
  rw [BitVec.toNat_or, e1, e2]
  exact wrap_small _ (by omega) (by omega)
theorem i64_and_small (a k : Nat) (ha : a < 1099511627776) (hk : k ≤ 30) : Go.bits .and .i64 (a : Int) ((2 ^ k - 1 : Nat) : Int) = ((a % 2 ^ k : Nat) : Int) := by
  have hm : 2 ^ k ≤ 2 ^ 30 := Nat.pow_le_pow_right (by omega) hk
  have hp : 0 < 2 ^ k := Nat.two_pow_pos k
  have hx : a % 2 ^ k < 2 ^ k := Nat.mod_lt _ hp
  show IntKind.i64.wrap ((BitVec.ofInt 64 (a : Int) &&& BitVec.ofInt 64 ((2 ^ k - 1 : Nat) : Int)).toNat : Int) = _
  have e1 : (BitVec.ofInt 64 (a : Int)).toNat = a := by rw [BitVec.toNat_ofInt]; omega
  have e2 : (BitVec.ofInt 64 ((2 ^ k - 1 : Nat) : Int)).toNat = 2 ^ k - 1 := by
    rw [BitVec.toNat_ofInt]
    have : 2 ^ k - 1 < 2 ^ 64 := by omega
    omega
  rw [BitVec.toNat_and, e1, e2, Nat.and_two_pow_sub_one_eq_mod]
  exact wrap_small _ (by omega) (by omega)
theorem and192 : ∀ b : Fin 256, (Go.bits .and .u8 ((b.val : Nat) : Int) 192 = 128) = (b.val / 64 = 2) := by
  intro b
  rw [show (192 : Int) = ((192 : Nat) : Int) from rfl, u8_and_nat _ _ b.isLt (by omega)]
  revert b
  decide +kernel
theorem and63 : ∀ b : Fin 256, Go.bits .and .u8 ((b.val : Nat) : Int) 63 = ((b.val % 64 : Nat) : Int) := by
  intro b
  rw [show (63 : Int) = ((63 : Nat) : Int) from rfl, u8_and_nat _ _ b.isLt (by omega)]
  have := Nat.and_two_pow_sub_one_eq_mod b.val 6
  rw [show (63 : Nat) = 2 ^ 6 - 1 from rfl, this]
theorem or64 (a b : Nat) (ha : a < 16777216) (h : b < 64) : Go.bits .or .i64 (((a * 64 : Nat)) : Int) ((b : Nat) : Int) = ((a * 64 + b : Nat) : Int) := by
  rw [i64_or_small _ _ (by omega) (by omega)]
  have := Nat.two_pow_add_eq_or_of_lt (i := 6) h a
  rw [Nat.mul_comm a 64]
  rw [← this]
/-- A byte of s as a number; 0 behind its end. -/
def bn (s : ByteArray) (i : Nat) : Nat := (bt s i).toNat
theorem bn_bt (s : ByteArray) (i : Nat) : bt s (i : Int) = ((bn s i : Nat) : Int) := by
  have := (bt_range s i).1
  unfold bn
  omega
theorem bn_lt (s : ByteArray) (i : Nat) : bn s i < 256 := by
  have := bt_range s i
  unfold bn
  omega
theorem bn_get (s : ByteArray) (i : Nat) (h : i < s.size) : bn s i = (s.get! i).toNat := by
  unfold bn bt
  rw [dif_pos (by simpa using h), Utf8W.get!_of_lt s i h]
  simp
/-- One round of One's loop. -/
theorem one_step (s : ByteArray) (need v least i : Nat) (hi : i < need) (hz : i < s.size) (hv : v < 1000000) (hs : s.size ≤ 100000) (k : Nat) :
    flintref2_One.l0 (k + 1) s need v least i = if bn s i / 64 = 2 then flintref2_One.l0 k s need ((v * 64 + bn s i % 64 : Nat) : Int) least ((i + 1 : Nat) : Int) else some (0, 0) := by
  have hb := bn_lt s i
  have e1 := and192 ⟨bn s i, hb⟩
  have e2 := and63 ⟨bn s i, hb⟩
  simp only at e1 e2
  simp only [flintref2_One.l0]
  rw [if_pos (by omega), if_pos (by omega), if_pos (by omega), bn_bt]
  by_cases h : bn s i / 64 = 2
  · rw [if_pos h, if_pos (by rw [e1]; exact h), e2, w64 (i := (v : Int) * 64) (by omega) (by omega), w64 (i := ((bn s i % 64 : Nat) : Int)) (by omega) (by omega), w64 (i := (i : Int) + 1) (by omega) (by omega)]
    rw [show (v : Int) * 64 = ((v * 64 : Nat) : Int) by omega, or64 v _ (by omega) (by omega)]
    rfl
  · rw [if_neg h, if_neg (by rw [e1]; exact h)]
/-- Its end. -/
theorem one_end (s : ByteArray) (need v least : Nat) (hv : v < 100000000) (k : Nat) :
    flintref2_One.l0 (k + 1) s need v least need = if v ≥ least ∧ (v < 55296 ∨ (57344 ≤ v ∧ v ≤ 1114111)) then some ((v : Int), (need : Int)) else some (0, 0) := by
  simp only [flintref2_One.l0]
  rw [if_neg (by omega)]
  by_cases h : v ≥ least ∧ (v < 55296 ∨ (57344 ≤ v ∧ v ≤ 1114111))
  · rw [if_pos h, if_neg (by omega), if_neg (by omega)]
    by_cases h2 : (v : Int) ≥ 55296
    · rw [if_pos h2, if_neg (by omega)]
    · rw [if_neg h2]
  · rw [if_neg h]
    by_cases h1 : (v : Int) < least
    · rw [if_pos h1]
    · rw [if_neg h1]
      by_cases h2 : (v : Int) > 1114111
      · rw [if_pos h2]
      · rw [if_neg h2, if_pos (by omega), if_pos (by omega)]
/-- What One tells of a text that is not empty. -/
def oneR (s : ByteArray) : Int × Int := if (Utf8.decode s 0).1 = 65533 ∧ (Utf8.decode s 0).2 = 1 then (0, 0) else (((Utf8.decode s 0).1 : Int), ((Utf8.decode s 0).2 : Int))
theorem one_ok (s : ByteArray) (h0 : 0 < s.size) (hs : s.size ≤ 100000) : flintref2_One.f 10 s = some (oneR s) := by
  have hd := Lib.decode_at s 0
  simp only [Nat.zero_add, Nat.sub_zero] at hd
  have hg0 := bn_get s 0 h0
  have hb0 := bn_lt s 0
  have hne : s.toList ≠ [] := by
    intro e
    rw [ByteArray.toList_eq] at e
    have h1 : s.data.toList.length = s.size := Array.length_toList
    rw [e] at h1
    have h2 : (0 : Nat) = s.size := h1
    omega
  unfold flintref2_One.f oneR
  rw [if_neg hne, if_pos (show (0 : Int) < (s.size : Int) by omega), show (bt s 0) = ((bn s 0 : Nat) : Int) from bn_bt s 0, w64 (i := ((bn s 0 : Nat) : Int)) (by omega) (by omega)]
  rw [hd, ← hg0]
  have g1 : 1 < s.size → bn s 1 = (s.get! 1).toNat := bn_get s 1
  have g2 : 2 < s.size → bn s 2 = (s.get! 2).toNat := bn_get s 2
  have g3 : 3 < s.size → bn s 3 = (s.get! 3).toNat := bn_get s 3
  have l1 := bn_lt s 1
  have l2 := bn_lt s 2
  have l3 := bn_lt s 3
  have j2 : ∀ (k need v least : Nat), flintref2_One.j2 (k + 1) s need v least = if s.size < need then some (0, 0) else flintref2_One.l0 k s need v least ((1 : Nat) : Int) := by
    intro k need v least
    simp only [flintref2_One.j2]
    by_cases h : s.size < need
    · rw [if_pos h, if_pos (by omega)]
    · rw [if_neg h, if_neg (by omega)]
      rfl
  have a5 := i64_and_small (bn s 0) 5 (by omega) (by omega)
  have a4 := i64_and_small (bn s 0) 4 (by omega) (by omega)
  have a3 := i64_and_small (bn s 0) 3 (by omega) (by omega)
  rw [show ((2 ^ 5 - 1 : Nat) : Int) = 31 from rfl, show (2 : Nat) ^ 5 = 32 from rfl] at a5
  rw [show ((2 ^ 4 - 1 : Nat) : Int) = 15 from rfl, show (2 : Nat) ^ 4 = 16 from rfl] at a4
  rw [show ((2 ^ 3 - 1 : Nat) : Int) = 7 from rfl, show (2 : Nat) ^ 3 = 8 from rfl] at a3
  have st := fun need v least i hi hz hv k => one_step s need v least i hi hz hv hs k
  have en := fun need v least hv k => one_end s need v least hv k
  generalize (s.get! 1).toNat = c1 at *
  generalize (s.get! 2).toNat = c2 at *
  generalize (s.get! 3).toNat = c3 at *
  generalize hB0 : bn s 0 = b0 at *
  have fin : ∀ (d : Nat × Nat) (x : Option (Int × Int)), x = some (if d.1 = 65533 ∧ d.2 = 1 then (0, 0) else ((d.1 : Int), (d.2 : Int))) → x = some (if d.1 = 65533 ∧ d.2 = 1 then (0, 0) else ((d.1 : Int), (d.2 : Int))) := fun _ _ h => h
  by_cases ha : b0 < 128
  · have c : ((b0 : Nat) : Int) < 128 := by omega
    rw [if_pos c]
    have : Lib.decodeN s.size b0 c1 c2 c3 = (b0, 1) := by unfold Lib.decodeN; rw [if_pos ha]
    rw [this, if_neg (by simp; omega)]
    rfl
  · have c : ¬ ((b0 : Nat) : Int) < 128 := by omega
    rw [if_neg c]
    by_cases hA : 192 ≤ b0 ∧ b0 < 224
    · have c1' : ((b0 : Nat) : Int) ≥ 192 := by omega
      rw [if_pos c1', decide_eq_true (by omega : (b0 : Int) < 224)]
      simp only [flintref2_One.j0, if_true]
      rw [a5, show (2 : Int) = ((2 : Nat) : Int) from rfl, show (128 : Int) = ((128 : Nat) : Int) from rfl, j2]
      by_cases hz : s.size < 2
      · rw [if_pos hz]
        have : Lib.decodeN s.size b0 c1 c2 c3 = (65533, 1) := by
          unfold Lib.decodeN
          rw [if_neg ha, if_neg (by omega), if_neg (by omega), if_neg (by omega)]
        rw [this]; rfl
      · rw [if_neg hz, st 2 _ _ 1 (by omega) (by omega) (by omega), g1 (by omega)]
        by_cases hc : c1 / 64 = 2
        · rw [if_pos hc, en 2 _ _ (by omega)]
          have : Lib.decodeN s.size b0 c1 c2 c3 = if b0 % 32 * 64 + c1 % 64 ≥ 128 then (b0 % 32 * 64 + c1 % 64, 2) else (65533, 1) := by
            unfold Lib.decodeN
            rw [if_neg ha, if_pos (by omega)]
          rw [this]
          by_cases hv : b0 % 32 * 64 + c1 % 64 ≥ 128
          · rw [if_pos hv, if_pos (by omega), if_neg (by simp)]
          · rw [if_neg hv, if_neg (by omega)]; rfl
        · rw [if_neg hc]
          have : Lib.decodeN s.size b0 c1 c2 c3 = (65533, 1) := by
            unfold Lib.decodeN
            rw [if_neg ha, if_neg (by omega), if_neg (by omega), if_neg (by omega)]
          rw [this]; rfl
    · by_cases hB : 224 ≤ b0 ∧ b0 < 240
      · have c1' : ((b0 : Nat) : Int) ≥ 192 := by omega
        have c2' : ((b0 : Nat) : Int) ≥ 224 := by omega
        rw [if_pos c1', decide_eq_false (by omega : ¬ (b0 : Int) < 224)]
        simp only [flintref2_One.j0, Bool.false_eq_true, if_false]
        rw [if_pos c2', decide_eq_true (by omega : (b0 : Int) < 240)]
        simp only [flintref2_One.j1, if_true]
        rw [a4, show (3 : Int) = ((3 : Nat) : Int) from rfl, show (2048 : Int) = ((2048 : Nat) : Int) from rfl, j2]
        by_cases hz : s.size < 3
        · rw [if_pos hz]
          have : Lib.decodeN s.size b0 c1 c2 c3 = (65533, 1) := by
            unfold Lib.decodeN
            rw [if_neg ha, if_neg (by omega), if_neg (by omega), if_neg (by omega)]
          rw [this]; rfl
        · rw [if_neg hz, st 3 _ _ 1 (by omega) (by omega) (by omega), g1 (by omega)]
          by_cases hc : c1 / 64 = 2
          · rw [if_pos hc, st 3 _ _ 2 (by omega) (by omega) (by omega), g2 (by omega)]
            by_cases hc2 : c2 / 64 = 2
            · rw [if_pos hc2, en 3 _ _ (by omega)]
              have e : (b0 % 16 * 64 + c1 % 64) * 64 + c2 % 64 = b0 % 16 * 4096 + c1 % 64 * 64 + c2 % 64 := by omega
              rw [e]
              have : Lib.decodeN s.size b0 c1 c2 c3 = if b0 % 16 * 4096 + c1 % 64 * 64 + c2 % 64 ≥ 2048 ∧ (b0 % 16 * 4096 + c1 % 64 * 64 + c2 % 64 < 55296 ∨ (57344 ≤ b0 % 16 * 4096 + c1 % 64 * 64 + c2 % 64 ∧ b0 % 16 * 4096 + c1 % 64 * 64 + c2 % 64 ≤ 1114111)) then (b0 % 16 * 4096 + c1 % 64 * 64 + c2 % 64, 3) else (65533, 1) := by
                unfold Lib.decodeN
                rw [if_neg ha, if_neg (by omega), if_pos (by omega)]
              rw [this]
              generalize b0 % 16 * 4096 + c1 % 64 * 64 + c2 % 64 = v
              by_cases hv : v ≥ 2048 ∧ (v < 55296 ∨ (57344 ≤ v ∧ v ≤ 1114111))
              · rw [if_pos hv, if_pos hv, if_neg (by simp)]
              · rw [if_neg hv, if_neg hv]; rfl
            · rw [if_neg hc2]
              have : Lib.decodeN s.size b0 c1 c2 c3 = (65533, 1) := by
                unfold Lib.decodeN
                rw [if_neg ha, if_neg (by omega), if_neg (by omega), if_neg (by omega)]
              rw [this]; rfl
          · rw [if_neg hc]
            have : Lib.decodeN s.size b0 c1 c2 c3 = (65533, 1) := by
              unfold Lib.decodeN
              rw [if_neg ha, if_neg (by omega), if_neg (by omega), if_neg (by omega)]
            rw [this]; rfl
      · by_cases hC : 240 ≤ b0 ∧ b0 < 248
        · have c1' : ((b0 : Nat) : Int) ≥ 192 := by omega
          have c2' : ((b0 : Nat) : Int) ≥ 224 := by omega
          have c3' : ((b0 : Nat) : Int) ≥ 240 := by omega
          have c4' : ((b0 : Nat) : Int) < 248 := by omega
          rw [if_pos c1', decide_eq_false (by omega : ¬ (b0 : Int) < 224)]
          simp only [flintref2_One.j0, Bool.false_eq_true, if_false]
          rw [if_pos c2', decide_eq_false (by omega : ¬ (b0 : Int) < 240)]
          simp only [flintref2_One.j1, Bool.false_eq_true, if_false]
          rw [if_pos c3', if_pos c4', a3, show (4 : Int) = ((4 : Nat) : Int) from rfl, show (65536 : Int) = ((65536 : Nat) : Int) from rfl, j2]
          have bad : (¬ s.size < 4 → ¬ (c1 / 64 = 2 ∧ c2 / 64 = 2 ∧ c3 / 64 = 2)) → Lib.decodeN s.size b0 c1 c2 c3 = (65533, 1) := by
            intro h
            unfold Lib.decodeN
            rw [if_neg ha, if_neg (by omega), if_neg (by omega), if_neg (by omega)]
          by_cases hz : s.size < 4
          · rw [if_pos hz, bad (fun h => absurd hz h)]; rfl
          · rw [if_neg hz, st 4 _ _ 1 (by omega) (by omega) (by omega), g1 (by omega)]
            by_cases hc : c1 / 64 = 2
            · rw [if_pos hc, st 4 _ _ 2 (by omega) (by omega) (by omega), g2 (by omega)]
              by_cases hc2 : c2 / 64 = 2
              · rw [if_pos hc2, st 4 _ _ 3 (by omega) (by omega) (by omega), g3 (by omega)]
                by_cases hc3 : c3 / 64 = 2
                · rw [if_pos hc3, en 4 _ _ (by omega)]
                  have e : ((b0 % 8 * 64 + c1 % 64) * 64 + c2 % 64) * 64 + c3 % 64 = b0 % 8 * 262144 + c1 % 64 * 4096 + c2 % 64 * 64 + c3 % 64 := by omega
                  rw [e]
                  have : Lib.decodeN s.size b0 c1 c2 c3 = if b0 % 8 * 262144 + c1 % 64 * 4096 + c2 % 64 * 64 + c3 % 64 ≥ 65536 ∧ (b0 % 8 * 262144 + c1 % 64 * 4096 + c2 % 64 * 64 + c3 % 64 < 55296 ∨ (57344 ≤ b0 % 8 * 262144 + c1 % 64 * 4096 + c2 % 64 * 64 + c3 % 64 ∧ b0 % 8 * 262144 + c1 % 64 * 4096 + c2 % 64 * 64 + c3 % 64 ≤ 1114111)) then (b0 % 8 * 262144 + c1 % 64 * 4096 + c2 % 64 * 64 + c3 % 64, 4) else (65533, 1) := by
                    unfold Lib.decodeN
                    rw [if_neg ha, if_neg (by omega), if_neg (by omega), if_pos (by omega)]
                  rw [this]
                  generalize b0 % 8 * 262144 + c1 % 64 * 4096 + c2 % 64 * 64 + c3 % 64 = v
                  by_cases hv : v ≥ 65536 ∧ (v < 55296 ∨ (57344 ≤ v ∧ v ≤ 1114111))
                  · rw [if_pos hv, if_pos hv, if_neg (by simp)]
                  · rw [if_neg hv, if_neg hv]; rfl
                · rw [if_neg hc3, bad (fun _ h => hc3 h.2.2)]; rfl
              · rw [if_neg hc2, bad (fun _ h => hc2 h.2.1)]; rfl
            · rw [if_neg hc, bad (fun _ h => hc h.1)]; rfl
        · have : Lib.decodeN s.size b0 c1 c2 c3 = (65533, 1) := by
            unfold Lib.decodeN
            rw [if_neg ha, if_neg (by omega), if_neg (by omega), if_neg (by omega)]
          rw [this]
          have no1 : flintref2_One.j1 9 s b0 (decide ((b0 : Int) < 240)) = some (0, 0) ∨ b0 < 224 := by
            by_cases h : b0 < 224
            · exact .inr h
            · left
              rw [decide_eq_false (by omega)]
              simp only [flintref2_One.j1, Bool.false_eq_true, if_false]
              by_cases h2 : (b0 : Int) ≥ 240
              · rw [if_pos h2, if_neg (by omega)]
              · rw [if_neg h2]
          have no2 : b0 < 224 → flintref2_One.j1 9 s b0 false = some (0, 0) := by
            intro h
            simp only [flintref2_One.j1, Bool.false_eq_true, if_false]
            rw [if_neg (by omega)]
          by_cases h2 : b0 ≥ 192
          · have c1' : ((b0 : Nat) : Int) ≥ 192 := by omega
            have c2' : ((b0 : Nat) : Int) ≥ 224 := by omega
            rw [if_pos c1', decide_eq_false (by omega : ¬ (b0 : Int) < 224)]
            simp only [flintref2_One.j0, Bool.false_eq_true, if_false]
            rw [if_pos c2']
            rcases no1 with h | h
            · rw [h]; rfl
            · omega
          · have c1' : ¬ ((b0 : Nat) : Int) ≥ 192 := by omega
            have c2' : ¬ ((b0 : Nat) : Int) ≥ 224 := by omega
            rw [if_neg c1']
            simp only [flintref2_One.j0, Bool.false_eq_true, if_false]
            rw [if_neg c2', no2 (by omega)]
            rfl
end Go.Proofs.YtacdiamflgcnbaaDoor.Nm
