/-
  Quoted texts, and back.
-/
import Derived.Test.YtacdiamflgcnbaaDoorPNbQuotes
import Derived.Test.YtacdiamflgcnbaaDoorNmRefQ
set_option linter.unusedVariables false
set_option linter.unusedSimpArgs false
namespace Go.Proofs.YtacdiamflgcnbaaDoor.Pure
open Go.RowKit Go.Proofs.YtacdiamflgcnbaaDoor.PNa Go.Proofs.YtacdiamflgcnbaaDoor.Nm Go.Proofs.YtacdiamflgcnbaaDoorW.PrintWords Go.Proofs.YtacdiamflgcnbaaDoorW.PrintLast Go.Proofs.YtacdiamflgcnbaaDoorW.PrintMore
namespace Quotes
theorem known60q : flintlaw2_known.f 60 = some true := by decide +kernel
theorem known_ev : Ev (fun k => flintlaw2_known.f k) true := Ev.of flintlaw2_known.mono known60q
theorem wr (i : Int) (h0 : -10 ≤ i) (h1 : i < 100000000) : wrap64 i = i := by unfold wrap64; omega
/-- What is told of a text that has been read loosely. -/
def fin (s : ByteArray) (out : List Int) : ByteArray × Int := if (⟨(quoteL (strOfNums out)).toArray⟩ : ByteArray) = s then (strOfNums out, 0) else (⟨#[]⟩, 24)
theorem nums_size (l : List Int) : (strOfNums l).size = l.length := by
  have : (strOfNums l).data.toList.length = (strOfNums l).size := Array.length_toList
  rw [← this]
  unfold strOfNums
  simp
theorem toL_eq (a b : ByteArray) : a.toList = b.toList ↔ a = b := by
  rw [ByteArray.toList_eq, ByteArray.toList_eq]
  exact ⟨fun h => WideShapes.bytes_inj h, fun h => by rw [h]⟩
theorem fin_prog (s : ByteArray) (out : List Int) (h : out.length ≤ 400000) : ((name_Quote.f (strOfNums out)).bind fun t231 => (if t231.toList = s.toList then (some (strOfNums out, (0 : Int))) else (some ((⟨#[]⟩ : ByteArray), 24)))) = some (fin s out) := by
  unfold name_Quote.f fin
  rw [if_pos (by rw [nums_size]; omega)]
  simp only [Option.bind_some, toL_eq]
  split <;> rfl
theorem fin_ref (s : ByteArray) (out : List Int) (h : out.length ≤ 100000) : Ev (fun k => (flintref2_Quote.f k (strOfNums out)).bind fun t231 => (if t231.toList = s.toList then (some (strOfNums out, (0 : Int))) else (some ((⟨#[]⟩ : ByteArray), 24)))) (fin s out) := by
  refine Ev.bind (ref_quote (strOfNums out) (by rw [nums_size]; omega)) ?_
  simp only [toL_eq]
  unfold fin
  split
  · exact Ev.now _
  · exact Ev.now _
/-- Bytes of a text from a place on. -/
theorem bt_from {s : ByteArray} {i : Nat} {L : List UInt8} (h : s.data.toList.drop i = L) (j : Nat) (hj : j < L.length) : bt s ((i + j : Nat) : Int) = ((L[j].toNat : Nat) : Int) := by
  subst h
  have hz : s.data.toList.length = s.size := Array.length_toList
  rw [List.length_drop, hz] at hj
  unfold bt
  rw [dif_pos (by rw [Int.toNat_natCast]; omega)]
  simp only [Int.toNat_natCast, List.getElem_drop]
  rfl
theorem size_from {s : ByteArray} {i : Nat} {L : List UInt8} (h : s.data.toList.drop i = L) (hi : i ≤ s.size) : s.size = i + L.length := by
  subst h
  rw [List.length_drop, show s.data.toList.length = s.size from Array.length_toList]
  omega
theorem idx_dig : ∀ d : Fin 16, Lib.indexByte (⟨#[48, 49, 50, 51, 52, 53, 54, 55, 56, 57, 97, 98, 99, 100, 101, 102]⟩ : ByteArray).data.toList (((dig d.val).toNat : Int)).toNat.toUInt8 = ((d.val : Nat) : Int) := by decide +kernel
theorem or16 : ∀ a b : Fin 16, Go.bits .or .i64 (((a.val * 16 : Nat)) : Int) ((b.val : Nat) : Int) = ((a.val * 16 + b.val : Nat) : Int) := by
  intro a b
  rw [i64_or_small _ _ (by omega) (by omega)]
  have := Nat.two_pow_add_eq_or_of_lt (i := 4) b.isLt a.val
  rw [Nat.mul_comm a.val 16, ← this]
theorem mx0 (a : Nat) : mx (a : Int) 0 = a := by unfold mx; split <;> omega
/-- Read loosely by the program: a quoted text. -/
theorem unq_good (s : ByteArray) (hs : s.size ≤ 200000) {t o : List UInt8} (h : Qd t o) : ∀ (i : Nat) (acc : List UInt8), s.data.toList.drop i = o ++ [34] → 1 ≤ i → i ≤ s.size → acc.length ≤ i →
    Ev (fun k => name_Unquote.l0 k s (ints acc) i) (fin s (ints (acc ++ t))) := by
  induction h with
  | nil =>
    intro i acc hd h1 h2 h3
    have hz := size_from hd h2
    refine Ev.step (f := fun _ => some (fin s (ints (acc ++ [])))) (fun k => ?_) (Ev.now _)
    simp only [name_Unquote.l0, List.append_nil]
    rw [if_neg (by rw [wr _ (by omega) (by omega)]; simp at hz; omega), fin_prog s _ (by rw [ints_len]; omega)]
  | hex c t o h ih =>
    intro i acc hd h1 h2 h3
    have hz := size_from hd h2
    simp only [List.length_append, List.length_cons, List.length_nil] at hz
    have b0 := bt_from hd 0 (by simp)
    have b1 := bt_from hd 1 (by simp)
    have b2 := bt_from hd 2 (by simp)
    have b3 := bt_from hd 3 (by simp)
    have hc := toNat_lt c
    have hd4 : s.data.toList.drop (i + 4) = o ++ [34] := by rw [← List.drop_drop, hd]; rfl
    have hn := ih (i + 4) (acc ++ [c]) hd4 (by omega) (by omega) (by simp; omega)
    rw [List.append_assoc] at hn
    have x2 := idx_dig ⟨c.toNat / 16, by omega⟩
    have x3 := idx_dig ⟨c.toNat % 16, by omega⟩
    have o16 := or16 ⟨c.toNat / 16, by omega⟩ ⟨c.toNat % 16, by omega⟩
    simp only at x2 x3 o16
    refine Ev.step (f := fun k => name_Unquote.j1 k s (ints acc) ((i + 1 : Nat) : Int) 120 true) (fun k => ?_) (Ev.step (fun k => ?_) hn)
    · simp only [name_Unquote.l0]
      have e0 : bt s (i : Int) = 92 := b0
      have e1 : bt s ((i + 1 : Nat) : Int) = 120 := b1
      rw [if_pos (by rw [wr _ (by omega) (by omega)]; omega), if_pos (by omega), if_pos (by omega), if_pos e0, wr ((i : Int) + 1) (by omega) (by omega), if_pos (by omega), if_pos (by omega)]
      rw [show (i : Int) + 1 = ((i + 1 : Nat) : Int) from rfl, if_pos e1, e1, wr _ (by omega) (by omega), decide_eq_true (by omega)]
    · simp only [name_Unquote.j1, if_true]
      rw [wr (((i + 1 : Nat) : Int) + 1) (by omega) (by omega), wr (((i + 1 : Nat) : Int) + 2) (by omega) (by omega), if_pos (by omega), if_pos (by omega)]
      rw [show ((i + 1 : Nat) : Int) + 1 = ((i + 2 : Nat) : Int) by omega, show ((i + 1 : Nat) : Int) + 2 = ((i + 3 : Nat) : Int) by omega, b2, b3]
      simp only [strings_IndexByte.f, Option.bind_some, List.getElem_cons_succ, List.getElem_cons_zero, List.cons_append]
      rw [if_pos (by omega), if_pos (by omega), if_pos (by rw [ints_len]; omega), x2, x3, mx0, mx0, wr (((c.toNat / 16 : Nat) : Int) * 16) (by omega) (by omega)]
      rw [show ((c.toNat / 16 : Nat) : Int) * 16 = ((c.toNat / 16 * 16 : Nat) : Int) by omega, o16, wr (((i + 3 : Nat) : Int) + 1) (by omega) (by omega)]
      rw [show (((c.toNat / 16 * 16 + c.toNat % 16 : Nat) : Int)) % 256 = (c.toNat : Int) by omega, ints_append]
      rfl
  | esc c t o hc h ih =>
    intro i acc hd h1 h2 h3
    have hz := size_from hd h2
    simp only [List.length_append, List.length_cons, List.length_nil] at hz
    have b0 := bt_from hd 0 (by simp)
    have b1 := bt_from hd 1 (by simp)
    have hd2 : s.data.toList.drop (i + 2) = o ++ [34] := by rw [← List.drop_drop, hd]; rfl
    have hn := ih (i + 2) (acc ++ [c]) hd2 (by omega) (by omega) (by simp; omega)
    rw [List.append_assoc] at hn
    have hcn : ¬ ((c.toNat : Nat) : Int) = 120 := by rcases hc with rfl | rfl <;> decide
    refine Ev.step (f := fun k => name_Unquote.j1 k s (ints acc) ((i + 1 : Nat) : Int) (c.toNat : Nat) false) (fun k => ?_) (Ev.step (fun k => ?_) hn)
    · simp only [name_Unquote.l0]
      have e0 : bt s (i : Int) = 92 := b0
      have e1 : bt s ((i + 1 : Nat) : Int) = ((c.toNat : Nat) : Int) := b1
      rw [if_pos (by rw [wr _ (by omega) (by omega)]; omega), if_pos (by omega), if_pos (by omega), if_pos e0, wr ((i : Int) + 1) (by omega) (by omega), if_pos (by omega), if_pos (by omega)]
      rw [show (i : Int) + 1 = ((i + 1 : Nat) : Int) from rfl, e1, if_neg hcn]
    · simp only [name_Unquote.j1, Bool.false_eq_true, if_false]
      rw [if_pos (by rw [ints_len]; omega), wr (((i + 1 : Nat) : Int) + 1) (by omega) (by omega), ints_append]
      rfl
  | raw c t o hc1 hc2 h ih =>
    intro i acc hd h1 h2 h3
    have hz := size_from hd h2
    simp only [List.length_append, List.length_cons, List.length_nil] at hz
    have b0 := bt_from hd 0 (by simp)
    have hd2 : s.data.toList.drop (i + 1) = o ++ [34] := by rw [← List.drop_drop, hd]; rfl
    have hn := ih (i + 1) (acc ++ [c]) hd2 (by omega) (by omega) (by simp; omega)
    rw [List.append_assoc] at hn
    have hcn : ¬ ((c.toNat : Nat) : Int) = 92 := fun e => hc1 (UInt8.toNat_inj.1 (by show c.toNat = 92; omega))
    refine Ev.step (fun k => ?_) hn
    simp only [name_Unquote.l0]
    have e0 : bt s (i : Int) = ((c.toNat : Nat) : Int) := b0
    rw [if_pos (by rw [wr _ (by omega) (by omega)]; omega), if_pos (by omega), if_pos (by omega), e0, if_neg hcn, if_pos (by rw [ints_len]; omega), wr ((i : Int) + 1) (by omega) (by omega), ints_append]
    rfl
/-- Read loosely by the program: any text. -/
theorem unq_any (s : ByteArray) (hs : s.size ≤ 200000) : ∀ (d i : Nat) (acc : List Int), s.size - i ≤ d → 1 ≤ i → acc.length ≤ i → i ≤ s.size + 5 → ∃ out, Ev (fun k => name_Unquote.l0 k s acc i) (fin s out) := by
  intro d
  have hbase : ∀ (i : Nat) (acc : List Int), ¬ (i : Int) < (s.size : Int) - 1 → 1 ≤ i → acc.length ≤ i → i ≤ s.size + 5 → ∃ out, Ev (fun k => name_Unquote.l0 k s acc i) (fin s out) := by
    intro i acc h h1 h3 h4
    refine ⟨acc, Ev.step (f := fun _ => some (fin s acc)) (fun k => ?_) (Ev.now _)⟩
    simp only [name_Unquote.l0]
    rw [if_neg (by rw [wr _ (by omega) (by omega)]; exact h), fin_prog s _ (by omega)]
  induction d with
  | zero => exact fun i acc h1 h2 h3 h4 => hbase i acc (by omega) h2 h3 h4
  | succ d ih =>
    intro i acc h1 h2 h3 h4
    by_cases hi : (i : Int) < (s.size : Int) - 1
    · by_cases hb : bt s (i : Int) = 92
      · have hfalse : ∃ out, Ev (fun k => name_Unquote.j1 k s acc ((i + 1 : Nat) : Int) (bt s ((i + 1 : Nat) : Int)) false) (fin s out) := by
          obtain ⟨out, ho⟩ := ih (i + 2) (acc ++ [bt s ((i + 1 : Nat) : Int)]) (by omega) (by omega) (by simp; omega) (by omega)
          refine ⟨out, Ev.step (fun k => ?_) ho⟩
          simp only [name_Unquote.j1, Bool.false_eq_true, if_false]
          rw [if_pos (by omega), wr (((i + 1 : Nat) : Int) + 1) (by omega) (by omega)]
          rfl
        have head : ∀ (b : Bool), (bt s ((i + 1 : Nat) : Int) = 120 → b = decide (((i + 1 : Nat) : Int) + 2 < (s.size : Int))) → (¬ bt s ((i + 1 : Nat) : Int) = 120 → b = false) → ∀ k, name_Unquote.l0 (k + 1) s acc i = name_Unquote.j1 k s acc ((i + 1 : Nat) : Int) (bt s ((i + 1 : Nat) : Int)) b := by
          intro b hb1 hb2 k
          simp only [name_Unquote.l0]
          rw [if_pos (by rw [wr _ (by omega) (by omega)]; exact hi), if_pos (by omega), if_pos (by omega), if_pos hb, wr ((i : Int) + 1) (by omega) (by omega), if_pos (by omega), if_pos (by omega)]
          rw [show (i : Int) + 1 = ((i + 1 : Nat) : Int) from rfl, wr (((i + 1 : Nat) : Int) + 2) (by omega) (by omega)]
          by_cases hx : bt s ((i + 1 : Nat) : Int) = 120
          · rw [if_pos hx, hb1 hx]
          · rw [if_neg hx, hb2 hx]
        by_cases hx : bt s ((i + 1 : Nat) : Int) = 120 ∧ ((i + 1 : Nat) : Int) + 2 < (s.size : Int)
        · obtain ⟨out, ho⟩ := ih (i + 4) (acc ++ [(Go.bits .or .i64 (wrap64 ((mx (Lib.indexByte (⟨#[48, 49, 50, 51, 52, 53, 54, 55, 56, 57, 97, 98, 99, 100, 101, 102]⟩ : ByteArray).data.toList (bt s ((i + 2 : Nat) : Int)).toNat.toUInt8) 0) * 16)) (mx (Lib.indexByte (⟨#[48, 49, 50, 51, 52, 53, 54, 55, 56, 57, 97, 98, 99, 100, 101, 102]⟩ : ByteArray).data.toList (bt s ((i + 3 : Nat) : Int)).toNat.toUInt8) 0)) % 256]) (by omega) (by omega) (by simp; omega) (by omega)
          refine ⟨out, Ev.step (fun k => head true (fun _ => by rw [decide_eq_true hx.2]) (fun h => absurd hx.1 h) k) (Ev.step (fun k => ?_) ho)⟩
          simp only [name_Unquote.j1, if_true]
          rw [wr (((i + 1 : Nat) : Int) + 1) (by omega) (by omega), wr (((i + 1 : Nat) : Int) + 2) (by omega) (by omega), if_pos (by omega), if_pos (by omega)]
          rw [show ((i + 1 : Nat) : Int) + 1 = ((i + 2 : Nat) : Int) by omega, show ((i + 1 : Nat) : Int) + 2 = ((i + 3 : Nat) : Int) by omega]
          simp only [strings_IndexByte.f, Option.bind_some]
          rw [if_pos (by omega), if_pos (by omega), if_pos (by omega), wr (((i + 3 : Nat) : Int) + 1) (by omega) (by omega)]
          rfl
        · obtain ⟨out, ho⟩ := hfalse
          refine ⟨out, Ev.step (fun k => head false (fun h => ?_) (fun _ => rfl) k) ho⟩
          rw [decide_eq_false (fun h2 => hx ⟨h, h2⟩)]
      · obtain ⟨out, ho⟩ := ih (i + 1) (acc ++ [bt s (i : Int)]) (by omega) (by omega) (by simp; omega) (by omega)
        refine ⟨out, Ev.step (fun k => ?_) ho⟩
        simp only [name_Unquote.l0]
        rw [if_pos (by rw [wr _ (by omega) (by omega)]; exact hi), if_pos (by omega), if_pos (by omega), if_neg hb, if_pos (by omega), wr ((i : Int) + 1) (by omega) (by omega)]
        rfl
    · exact hbase i acc hi h2 h3 h4
/-- A digit's value; -1: it is none. -/
def valR (c : Int) : Int := if 48 ≤ c ∧ c ≤ 57 then c - 48 else if 97 ≤ c ∧ c ≤ 102 then c - 87 else -1
theorem value_ok (c : Int) (h0 : 0 ≤ c) (h1 : c < 256) : flintref2_value.f 3 c = some (valR c) := by
  unfold flintref2_value.f valR
  by_cases a : c ≥ 48
  · rw [if_pos a]
    by_cases b : c ≤ 57
    · rw [decide_eq_true b, if_pos ⟨a, b⟩]
      simp only [flintref2_value.j0, if_true]
      congr 1; omega
    · rw [decide_eq_false b, if_neg (by omega)]
      simp only [flintref2_value.j0, Bool.false_eq_true, if_false]
      by_cases e : c ≥ 97
      · rw [if_pos e]
        by_cases g : c ≤ 102
        · rw [if_pos g, if_pos ⟨e, g⟩]; congr 1; omega
        · rw [if_neg g, if_neg (by omega)]
      · rw [if_neg e, if_neg (by omega)]
  · rw [if_neg a, if_neg (by omega), if_neg (by omega)]
    simp only [flintref2_value.j0, Bool.false_eq_true, if_false]
    rw [if_neg (by omega)]
theorem value_ev (c : Int) (h0 : 0 ≤ c) (h1 : c < 256) : Ev (fun k => flintref2_value.f k c) (valR c) := Ev.of (flintref2_value.mono c) (value_ok c h0 h1)
theorem val_bound (c : Int) : -1 ≤ valR c ∧ valR c ≤ 15 := by
  unfold valR
  split
  · omega
  · split <;> omega
theorem val_dig : ∀ d : Fin 16, valR (((dig d.val).toNat : Nat) : Int) = ((d.val : Nat) : Int) := by decide +kernel
theorem bt_rng (s : ByteArray) (i : Int) : 0 ≤ bt s i ∧ bt s i < 256 := by
  have := bt_range s i
  omega
/-- The round at a backslash that is not an escape of one byte. -/
theorem ref_hex (s t : ByteArray) (acc : List Int) (i : Nat) (hs : t.size ≤ 200000) (hacc : acc.length ≤ 200000) (h3 : i + 3 < t.size) (h120 : bt t ((i + 1 : Nat) : Int) = 120) (hv2 : 0 ≤ valR (bt t ((i + 2 : Nat) : Int))) (hv3 : 0 ≤ valR (bt t ((i + 3 : Nat) : Int))) (r : ByteArray × Int)
    (h : Ev (fun k => flintref2_Unquote.l0 k s t (acc ++ [(16 * valR (bt t ((i + 2 : Nat) : Int)) + valR (bt t ((i + 3 : Nat) : Int))) % 256]) ((i + 4 : Nat) : Int)) r) :
    Ev (fun k => flintref2_Unquote.j2 k s t acc i false) r := by
  have r2 := bt_rng t ((i + 2 : Nat) : Int)
  have r3 := bt_rng t ((i + 3 : Nat) : Int)
  have v2 := value_ev _ r2.1 r2.2
  have v3 := value_ev _ r3.1 r3.2
  have B2 := val_bound (bt t ((i + 2 : Nat) : Int))
  have B3 := val_bound (bt t ((i + 3 : Nat) : Int))
  refine Ev.step (f := fun k => (flintref2_value.f k (bt t ((i + 2 : Nat) : Int))).bind fun t281 => (if t281 ≥ 0 then (if 0 ≤ ((i + 3 : Nat) : Int) then ((flintref2_value.f k (bt t ((i + 3 : Nat) : Int))).bind fun t282 => (flintref2_Unquote.j3 k s t acc i (decide (t282 ≥ 0)))) else (none)) else (flintref2_Unquote.j3 k s t acc i false))) (fun k => ?_) (Ev.bind v2 ?_)
  · simp only [flintref2_Unquote.j2, Bool.false_eq_true, if_false]
    rw [wr ((i : Int) + 3) (by omega) (by omega), wr ((i : Int) + 1) (by omega) (by omega), wr ((i : Int) + 2) (by omega) (by omega), if_pos (by omega), if_pos (by omega), if_pos (by omega)]
    rw [show (i : Int) + 1 = ((i + 1 : Nat) : Int) from rfl, show (i : Int) + 2 = ((i + 2 : Nat) : Int) from rfl, show (i : Int) + 3 = ((i + 3 : Nat) : Int) from rfl]
    rw [if_pos h120, if_pos (by omega), if_pos (by omega)]
  · have c1 : (0 : Int) ≤ ((i + 3 : Nat) : Int) := by omega
    simp only [ge_iff_le, if_pos hv2, if_pos c1]
    refine Ev.bind v3 ?_
    simp only [decide_eq_true hv3]
    refine Ev.step (f := fun k => (flintref2_value.f k (bt t ((i + 2 : Nat) : Int))).bind fun t283 => ((flintref2_value.f k (bt t ((i + 3 : Nat) : Int))).bind fun t284 => (flintref2_Unquote.l0 k s t (acc ++ [(wrap64 ((wrap64 (16 * t283)) + t284)) % 256]) ((i + 4 : Nat) : Int)))) (fun k => ?_) (Ev.bind v2 (Ev.bind v3 ?_))
    · simp only [flintref2_Unquote.j3, if_true]
      rw [wr ((i : Int) + 3) (by omega) (by omega), wr ((i : Int) + 2) (by omega) (by omega), if_pos (by omega), if_pos (by omega)]
      rw [show (i : Int) + 2 = ((i + 2 : Nat) : Int) from rfl, show (i : Int) + 3 = ((i + 3 : Nat) : Int) from rfl]
      have c2 : ((i + 3 : Nat) : Int) < (t.size : Int) := by omega
      have c3 : acc.length < 140737488355328 := by omega
      simp only [if_pos c1, if_pos c2, if_pos c3, wr (((i + 3 : Nat) : Int) + 1) (by omega) (by omega)]
      rfl
    · simp only [wr (16 * valR (bt t ((i + 2 : Nat) : Int))) (by omega) (by omega), wr (16 * valR (bt t ((i + 2 : Nat) : Int)) + valR (bt t ((i + 3 : Nat) : Int))) (by omega) (by omega)]
      exact h
theorem ref_end (s t : ByteArray) (acc : List Int) (i : Nat) (h : t.size ≤ i) (hacc : acc.length ≤ 100000) : Ev (fun k => flintref2_Unquote.l0 k s t acc i) (fin s acc) := by
  refine Ev.step (fun k => ?_) (fin_ref s acc hacc)
  simp only [flintref2_Unquote.l0]
  rw [if_neg (by omega)]
theorem ref_raw (s t : ByteArray) (acc : List Int) (i : Nat) (hi : i < t.size) (hs : t.size ≤ 200000) (hacc : acc.length ≤ 200000) (hb : ¬ bt t (i : Int) = 92) (r : ByteArray × Int)
    (h : Ev (fun k => flintref2_Unquote.l0 k s t (acc ++ [bt t (i : Int)]) ((i + 1 : Nat) : Int)) r) : Ev (fun k => flintref2_Unquote.l0 k s t acc i) r := by
  refine Ev.step (fun k => ?_) h
  simp only [flintref2_Unquote.l0]
  rw [if_pos (by omega), if_pos (by omega), if_neg hb, if_pos (by omega), wr ((i : Int) + 1) (by omega) (by omega)]
  rfl
/-- A backslash: escaped, or not. -/
theorem ref_esc (s t : ByteArray) (acc : List Int) (i : Nat) (hi : i < t.size) (hs : t.size ≤ 200000) (hb : bt t (i : Int) = 92) (b : Bool)
    (hbv : b = decide (((i + 1 : Nat) : Int) < (t.size : Int) ∧ (bt t ((i + 1 : Nat) : Int) = 34 ∨ bt t ((i + 1 : Nat) : Int) = 92))) (r : ByteArray × Int)
    (h : Ev (fun k => flintref2_Unquote.j2 k s t acc i b) r) : Ev (fun k => flintref2_Unquote.l0 k s t acc i) r := by
  refine Ev.step (fun k => ?_) h
  simp only [flintref2_Unquote.l0]
  rw [if_pos (by omega), if_pos (by omega), if_pos hb, wr ((i : Int) + 1) (by omega) (by omega), show (i : Int) + 1 = ((i + 1 : Nat) : Int) from rfl]
  by_cases h1 : ((i + 1 : Nat) : Int) < (t.size : Int)
  · rw [if_pos h1, if_pos (by omega)]
    by_cases h2 : bt t ((i + 1 : Nat) : Int) = 34
    · rw [if_pos h2, hbv, decide_eq_true ⟨h1, .inl h2⟩]
    · rw [if_neg h2, hbv]
      by_cases h4 : bt t ((i + 1 : Nat) : Int) = 92
      · rw [decide_eq_true ⟨h1, .inr h4⟩, h4]; rfl
      · rw [decide_eq_false (fun x => by rcases x.2 with x | x <;> contradiction)]
        rw [show (bt t ((i + 1 : Nat) : Int) == 92) = false from beq_eq_false_iff_ne.mpr h4]
  · rw [if_neg h1, hbv, decide_eq_false (fun x => h1 x.1)]
theorem ref_two (s t : ByteArray) (acc : List Int) (i : Nat) (hi : i + 1 < t.size) (hs : t.size ≤ 200000) (hacc : acc.length ≤ 200000) (r : ByteArray × Int)
    (h : Ev (fun k => flintref2_Unquote.l0 k s t (acc ++ [bt t ((i + 1 : Nat) : Int)]) ((i + 2 : Nat) : Int)) r) : Ev (fun k => flintref2_Unquote.j2 k s t acc i true) r := by
  refine Ev.step (fun k => ?_) h
  simp only [flintref2_Unquote.j2, if_true]
  rw [wr ((i : Int) + 1) (by omega) (by omega), show (i : Int) + 1 = ((i + 1 : Nat) : Int) from rfl, if_pos (by omega), if_pos (by omega), if_pos (by omega), wr (((i + 1 : Nat) : Int) + 1) (by omega) (by omega)]
  rfl
theorem ref_no (s t : ByteArray) (acc : List Int) (i : Nat) : Ev (fun k => flintref2_Unquote.j3 k s t acc i false) (⟨#[]⟩, 24) := by
  refine Ev.step (f := fun _ => some ((⟨#[]⟩ : ByteArray), 24)) (fun k => ?_) (Ev.now _)
  simp only [flintref2_Unquote.j3, Bool.false_eq_true, if_false]
/-- Read loosely by the reference: a quoted text. -/
theorem ref_good (s t : ByteArray) (hs : t.size ≤ 90000) {u o : List UInt8} (h : Qd u o) : ∀ (i : Nat) (acc : List UInt8), t.data.toList.drop i = o → i ≤ t.size → acc.length ≤ i →
    Ev (fun k => flintref2_Unquote.l0 k s t (ints acc) i) (fin s (ints (acc ++ u))) := by
  induction h with
  | nil =>
    intro i acc hd h2 h3
    have hz := size_from hd h2
    rw [List.append_nil]
    exact ref_end s t _ i (by simp at hz; omega) (by rw [ints_len]; omega)
  | hex c u o h ih =>
    intro i acc hd h2 h3
    have hz := size_from hd h2
    simp only [List.length_cons] at hz
    have b0 := bt_from hd 0 (by simp)
    have b1 := bt_from hd 1 (by simp)
    have b2 := bt_from hd 2 (by simp)
    have b3 := bt_from hd 3 (by simp)
    simp only [List.getElem_cons_succ, List.getElem_cons_zero] at b0 b1 b2 b3
    have hc := toNat_lt c
    have hd4 : t.data.toList.drop (i + 4) = o := by rw [← List.drop_drop, hd]; rfl
    have hn := ih (i + 4) (acc ++ [c]) hd4 (by omega) (by simp; omega)
    rw [List.append_assoc] at hn
    have x2 := val_dig ⟨c.toNat / 16, by omega⟩
    have x3 := val_dig ⟨c.toNat % 16, by omega⟩
    simp only at x2 x3
    have e0 : bt t (i : Int) = 92 := b0
    have e1 : bt t ((i + 1 : Nat) : Int) = 120 := b1
    refine ref_esc s t _ i (by omega) (by omega) e0 false (by rw [e1]; exact (decide_eq_false (by omega)).symm) _ ?_
    refine ref_hex s t _ i (by omega) (by rw [ints_len]; omega) (by omega) e1 (by rw [b2, x2]; omega) (by rw [b3, x3]; omega) _ ?_
    rw [b2, b3, x2, x3, show (16 * ((c.toNat / 16 : Nat) : Int) + ((c.toNat % 16 : Nat) : Int)) % 256 = (c.toNat : Int) by omega]
    rw [ints_append] at hn
    exact hn
  | esc c u o hc h ih =>
    intro i acc hd h2 h3
    have hz := size_from hd h2
    simp only [List.length_cons] at hz
    have b0 := bt_from hd 0 (by simp)
    have b1 := bt_from hd 1 (by simp)
    simp only [List.getElem_cons_succ, List.getElem_cons_zero] at b0 b1
    have hd2 : t.data.toList.drop (i + 2) = o := by rw [← List.drop_drop, hd]; rfl
    have hn := ih (i + 2) (acc ++ [c]) hd2 (by omega) (by simp; omega)
    rw [List.append_assoc] at hn
    have e0 : bt t (i : Int) = 92 := b0
    have hcc : ((c.toNat : Nat) : Int) = 34 ∨ ((c.toNat : Nat) : Int) = 92 := by
      rcases hc with rfl | rfl
      · exact .inl rfl
      · exact .inr rfl
    refine ref_esc s t _ i (by omega) (by omega) e0 true (by rw [b1]; exact (decide_eq_true ⟨by omega, hcc⟩).symm) _ ?_
    refine ref_two s t _ i (by omega) (by omega) (by rw [ints_len]; omega) _ ?_
    rw [b1]
    rw [ints_append] at hn
    exact hn
  | raw c u o hc1 hc2 h ih =>
    intro i acc hd h2 h3
    have hz := size_from hd h2
    simp only [List.length_cons] at hz
    have b0 := bt_from hd 0 (by simp)
    simp only [List.getElem_cons_zero] at b0
    have hd2 : t.data.toList.drop (i + 1) = o := by rw [← List.drop_drop, hd]; rfl
    have hn := ih (i + 1) (acc ++ [c]) hd2 (by omega) (by simp; omega)
    rw [List.append_assoc] at hn
    have hcn : ¬ ((c.toNat : Nat) : Int) = 92 := fun e => hc1 (UInt8.toNat_inj.1 (by show c.toNat = 92; omega))
    have e0 : bt t (i : Int) = ((c.toNat : Nat) : Int) := b0
    refine ref_raw s t _ i (by omega) (by omega) (by rw [ints_len]; omega) (by rw [e0]; exact hcn) _ ?_
    rw [e0]
    rw [ints_append] at hn
    exact hn
/-- Read loosely by the reference: any text. -/
theorem ref_any (s t : ByteArray) (hs : t.size ≤ 90000) : ∀ (d i : Nat) (acc : List Int), t.size - i ≤ d → acc.length ≤ i → i ≤ t.size + 5 → ∃ r, Ev (fun k => flintref2_Unquote.l0 k s t acc i) r ∧ (r = (⟨#[]⟩, 24) ∨ ∃ out, r = fin s out) := by
  intro d
  induction d with
  | zero => exact fun i acc h1 h3 h4 => ⟨_, ref_end s t acc i (by omega) (by omega), .inr ⟨_, rfl⟩⟩
  | succ d ih =>
    intro i acc h1 h3 h4
    by_cases hi : i < t.size
    · by_cases hb : bt t (i : Int) = 92
      · by_cases he : ((i + 1 : Nat) : Int) < (t.size : Int) ∧ (bt t ((i + 1 : Nat) : Int) = 34 ∨ bt t ((i + 1 : Nat) : Int) = 92)
        · obtain ⟨r, r1, r2⟩ := ih (i + 2) (acc ++ [bt t ((i + 1 : Nat) : Int)]) (by omega) (by simp; omega) (by omega)
          exact ⟨r, ref_esc s t acc i hi (by omega) hb true (decide_eq_true he).symm _ (ref_two s t acc i (by omega) (by omega) (by omega) _ r1), r2⟩
        · by_cases hh : i + 3 < t.size ∧ bt t ((i + 1 : Nat) : Int) = 120 ∧ 0 ≤ valR (bt t ((i + 2 : Nat) : Int)) ∧ 0 ≤ valR (bt t ((i + 3 : Nat) : Int))
          · obtain ⟨r, r1, r2⟩ := ih (i + 4) (acc ++ [(16 * valR (bt t ((i + 2 : Nat) : Int)) + valR (bt t ((i + 3 : Nat) : Int))) % 256]) (by omega) (by simp; omega) (by omega)
            exact ⟨r, ref_esc s t acc i hi (by omega) hb false (decide_eq_false he).symm _ (ref_hex s t acc i (by omega) (by omega) hh.1 hh.2.1 hh.2.2.1 hh.2.2.2 _ r1), r2⟩
          · refine ⟨(⟨#[]⟩, 24), ref_esc s t acc i hi (by omega) hb false (decide_eq_false he).symm _ ?_, .inl rfl⟩
            by_cases g1 : i + 3 < t.size
            · by_cases g2 : bt t ((i + 1 : Nat) : Int) = 120
              · have r2 := bt_rng t ((i + 2 : Nat) : Int)
                have r3 := bt_rng t ((i + 3 : Nat) : Int)
                have v2 := value_ev _ r2.1 r2.2
                have v3 := value_ev _ r3.1 r3.2
                refine Ev.step (f := fun k => (flintref2_value.f k (bt t ((i + 2 : Nat) : Int))).bind fun t281 => (if t281 ≥ 0 then (if 0 ≤ ((i + 3 : Nat) : Int) then ((flintref2_value.f k (bt t ((i + 3 : Nat) : Int))).bind fun t282 => (flintref2_Unquote.j3 k s t acc i (decide (t282 ≥ 0)))) else (none)) else (flintref2_Unquote.j3 k s t acc i false))) (fun k => ?_) (Ev.bind v2 ?_)
                · simp only [flintref2_Unquote.j2, Bool.false_eq_true, if_false]
                  rw [wr ((i : Int) + 3) (by omega) (by omega), wr ((i : Int) + 1) (by omega) (by omega), wr ((i : Int) + 2) (by omega) (by omega), if_pos (by omega), if_pos (by omega), if_pos (by omega)]
                  rw [show (i : Int) + 1 = ((i + 1 : Nat) : Int) from rfl, show (i : Int) + 2 = ((i + 2 : Nat) : Int) from rfl, show (i : Int) + 3 = ((i + 3 : Nat) : Int) from rfl]
                  rw [if_pos g2, if_pos (by omega), if_pos (by omega)]
                · by_cases g3 : valR (bt t ((i + 2 : Nat) : Int)) ≥ 0
                  · have c1 : (0 : Int) ≤ ((i + 3 : Nat) : Int) := by omega
                    simp only [if_pos g3, if_pos c1]
                    refine Ev.bind v3 ?_
                    have g4 : ¬ valR (bt t ((i + 3 : Nat) : Int)) ≥ 0 := fun x => hh ⟨g1, g2, g3, x⟩
                    simp only [decide_eq_false g4]
                    exact ref_no s t acc i
                  · simp only [if_neg g3]
                    exact ref_no s t acc i
              · refine Ev.step (fun k => ?_) (ref_no s t acc i)
                simp only [flintref2_Unquote.j2, Bool.false_eq_true, if_false]
                rw [wr ((i : Int) + 3) (by omega) (by omega), wr ((i : Int) + 1) (by omega) (by omega), if_pos (by omega), if_pos (by omega), if_pos (by omega)]
                rw [show (i : Int) + 1 = ((i + 1 : Nat) : Int) from rfl, if_neg g2]
            · refine Ev.step (fun k => ?_) (ref_no s t acc i)
              simp only [flintref2_Unquote.j2, Bool.false_eq_true, if_false]
              rw [wr ((i : Int) + 3) (by omega) (by omega), if_neg (by omega)]
      · obtain ⟨r, r1, r2⟩ := ih (i + 1) (acc ++ [bt t (i : Int)]) (by omega) (by simp; omega) (by omega)
        exact ⟨r, ref_raw s t acc i hi (by omega) (by omega) hb _ r1, r2⟩
    · exact ⟨_, ref_end s t acc i (by omega) (by omega), .inr ⟨_, rfl⟩⟩
theorem qd_len {u o : List UInt8} (h : Qd u o) : o.length ≤ 4 * u.length := by
  induction h with
  | nil => simp
  | hex c t o h ih => simp only [List.length_cons]; omega
  | esc c t o hc h ih => simp only [List.length_cons]; omega
  | raw c t o h1 h2 h ih => simp only [List.length_cons]; omega
theorem fin_good (u s : ByteArray) (h : s = ⟨(quoteL u).toArray⟩) : fin s (ints ([] ++ u.data.toList)) = (u, 0) := by
  have e : strOfNums (ints ([] ++ u.data.toList)) = u := by
    rw [str_ints]
    apply WideShapes.bytes_inj
    simp
  unfold fin
  rw [e, if_pos h.symm]
theorem fin_bad (s : ByteArray) (h : ¬ ∃ u : ByteArray, s = ⟨(quoteL u).toArray⟩) (out : List Int) : fin s out = (⟨#[]⟩, 24) := by
  unfold fin
  rw [if_neg (fun e => h ⟨_, e.symm⟩)]
theorem quote_toL (u : ByteArray) : (⟨(quoteL u).toArray⟩ : ByteArray).data.toList = 34 :: (quoteFrom u u.size 0 ++ [34]) := rfl
theorem quote_size (u : ByteArray) : (⟨(quoteL u).toArray⟩ : ByteArray).size = (quoteFrom u u.size 0).length + 2 := by
  show (quoteL u).length = _
  unfold quoteL
  simp
theorem quote_size_le (u : ByteArray) : (⟨(quoteL u).toArray⟩ : ByteArray).size ≤ 4 * u.size + 2 := by
  have := qd_len (quote_qd u)
  rw [show u.data.toList.length = u.size from Array.length_toList] at this
  rw [quote_size]
  omega
/-- The program reads what it wrote. -/
theorem prog_back (u : ByteArray) (hu : u.size ≤ 40000) : Ev (fun k => name_Unquote.f k ⟨(quoteL u).toArray⟩) (u, 0) := by
  have hsz := quote_size_le u
  have hs2 := quote_size u
  have := unq_good ⟨(quoteL u).toArray⟩ (by omega) (quote_qd u) 1 [] rfl (Nat.le_refl _) (by omega) (by simp)
  rw [fin_good u _ rfl] at this
  exact this
theorem ref_back (u : ByteArray) (hu : (⟨(quoteL u).toArray⟩ : ByteArray).size ≤ 80000) : Ev (fun k => flintref2_Unquote.f k ⟨(quoteL u).toArray⟩) (u, 0) := by
  have hs2 := quote_size u
  have hi : ((⟨(quoteL u).toArray⟩ : ByteArray).extract 1 ((⟨(quoteL u).toArray⟩ : ByteArray).size - 1)).data.toList = quoteFrom u u.size 0 := by
    rw [ext_toL, quote_toL, hs2]
    simp
  have hisz : ((⟨(quoteL u).toArray⟩ : ByteArray).extract 1 ((⟨(quoteL u).toArray⟩ : ByteArray).size - 1)).size = (quoteFrom u u.size 0).length := by
    rw [← hi]; exact Array.length_toList.symm
  have hg := ref_good ⟨(quoteL u).toArray⟩ ((⟨(quoteL u).toArray⟩ : ByteArray).extract 1 ((⟨(quoteL u).toArray⟩ : ByteArray).size - 1)) (by omega) (quote_qd u) 0 [] (by rw [hi]; rfl) (by omega) (by simp)
  rw [fin_good u _ rfl] at hg
  have b0 : bt ⟨(quoteL u).toArray⟩ 0 = 34 := bt_from (s := ⟨(quoteL u).toArray⟩) (i := 0) (L := 34 :: (quoteFrom u u.size 0 ++ [34])) rfl 0 (by simp)
  have bl : bt ⟨(quoteL u).toArray⟩ (((⟨(quoteL u).toArray⟩ : ByteArray).size - 1 : Nat) : Int) = 34 := by
    have := bt_from (s := ⟨(quoteL u).toArray⟩) (i := 0) (L := 34 :: (quoteFrom u u.size 0 ++ [34])) rfl ((quoteFrom u u.size 0).length + 1) (by simp)
    rw [hs2, show (quoteFrom u u.size 0).length + 2 - 1 = 0 + ((quoteFrom u u.size 0).length + 1) by omega, this]
    simp
  generalize hS : (⟨(quoteL u).toArray⟩ : ByteArray) = s at *
  unfold flintref2_Unquote.f
  have c1 : ¬ (s.size : Int) < 2 := by omega
  have c2 : (0 : Int) < (s.size : Int) := by omega
  have e : wrap64 ((s.size : Int) - 1) = ((s.size - 1 : Nat) : Int) := by rw [wr _ (by omega) (by omega)]; omega
  have c3 : (0 : Int) ≤ ((s.size - 1 : Nat) : Int) := by omega
  have c4 : ((s.size - 1 : Nat) : Int) < (s.size : Int) := by omega
  simp only [if_neg c1, if_pos c2, if_pos b0, e, if_pos c3, if_pos c4, bl]
  refine Ev.step (fun k => ?_) hg
  simp only [flintref2_Unquote.j0]
  rw [if_neg (by decide), e, if_pos (by omega), if_pos (by omega), Int.toNat_natCast]
  rfl
theorem unq_same (s : ByteArray) (hs : s.size ≤ 40000) : ∃ r, Ev (fun k => name_Unquote.f k s) r ∧ Ev (fun k => flintref2_Unquote.f k s) r := by
  by_cases hA : ∃ u : ByteArray, s = ⟨(quoteL u).toArray⟩
  · obtain ⟨u, rfl⟩ := hA
    have hs2 := quote_size u
    have hg := unq_good ⟨(quoteL u).toArray⟩ (by omega) (quote_qd u) 1 [] rfl (Nat.le_refl _) (by omega) (by simp)
    rw [fin_good u _ rfl] at hg
    exact ⟨(u, 0), hg, ref_back u (by omega)⟩
  · refine ⟨(⟨#[]⟩, 24), ?_, ?_⟩
    · obtain ⟨out, ho⟩ := unq_any s (by omega) s.size 1 [] (by omega) (by omega) (by simp) (by omega)
      rw [fin_bad s hA] at ho
      exact ho
    · have hno : ∀ k, flintref2_Unquote.j0 (k + 1) s true = some ((⟨#[]⟩ : ByteArray), 24) := fun k => by simp [flintref2_Unquote.j0]
      have evno : Ev (fun k => flintref2_Unquote.j0 k s true) ((⟨#[]⟩ : ByteArray), 24) := Ev.step (f := fun _ => some ((⟨#[]⟩ : ByteArray), 24)) hno (Ev.now _)
      unfold flintref2_Unquote.f
      by_cases c1 : (s.size : Int) < 2
      · simp only [if_pos c1]; exact evno
      · have c2 : (0 : Int) < (s.size : Int) := by omega
        simp only [if_neg c1, if_pos c2]
        by_cases b0 : bt s 0 = 34
        · have e : wrap64 ((s.size : Int) - 1) = ((s.size - 1 : Nat) : Int) := by rw [wr _ (by omega) (by omega)]; omega
          have c3 : (0 : Int) ≤ ((s.size - 1 : Nat) : Int) := by omega
          have c4 : ((s.size - 1 : Nat) : Int) < (s.size : Int) := by omega
          simp only [if_pos b0, e, if_pos c3, if_pos c4]
          by_cases bl : bt s ((s.size - 1 : Nat) : Int) = 34
          · rw [bl]
            obtain ⟨r, r1, r2⟩ := ref_any s (s.extract 1 (s.size - 1)) (by rw [ByteArray.size_extract]; omega) (s.extract 1 (s.size - 1)).size 0 [] (by omega) (by simp) (by omega)
            have hr : r = (⟨#[]⟩, 24) := by
              rcases r2 with h | ⟨out, h⟩
              · exact h
              · rw [h, fin_bad s hA]
            rw [hr] at r1
            refine Ev.step (fun k => ?_) r1
            simp only [flintref2_Unquote.j0]
            rw [if_neg (by decide), e, if_pos (by omega), if_pos (by omega), Int.toNat_natCast]
            rfl
          · have : (bt s ((s.size - 1 : Nat) : Int) != 34) = true := by simpa using bl
            rw [this]; exact evno
        · simp only [if_neg b0]; exact evno
end Quotes
open Quotes
theorem NameQuotes : flintlaw2_NameQuotes.Pure := by
  intro s hs
  refine Ev.rounds (g := fun k => flintlaw2_NameQuotes.f k s) ?_
  unfold flintlaw2_NameQuotes.f
  refine Ev.bind known_ev ?_
  simp only [if_true]
  by_cases h1 : (s.size : Int) > 32768
  · simp only [if_pos h1]
    exact Ev.now _
  · simp only [if_neg h1]
    obtain ⟨r, r1, r2⟩ := unq_same s (by omega)
    have hq : name_Quote.f s = some ⟨(quoteL s).toArray⟩ := by unfold name_Quote.f; rw [if_pos (by omega)]
    refine Ev.bind (a := r) r1 (Ev.bind (a := r) r2 ?_)
    simp only [if_true, hq, Option.bind_some]
    refine Ev.bind (ref_quote s (by omega)) ?_
    refine Ev.step (f := fun k => (name_Unquote.f k ⟨(quoteL s).toArray⟩).bind fun bt296 => (if bt296.2 = 0 then (some (bt296.1.toList == s.toList)) else (some false))) (fun k => ?_) (Ev.bind (prog_back s (by omega)) ?_)
    · simp only [flintlaw2_NameQuotes.j0, hq, Option.bind_some]
      rw [if_neg (by simp)]
    · simp only [if_true, beq_self_eq_true]
      exact Ev.now _
end Go.Proofs.YtacdiamflgcnbaaDoor.Pure
