/-
  Keys in their order; quoted words are the words again.
-/
import Derived.Test.YtacdiamflgcnbaaDoorPNbOrders
import Derived.Test.YtacdiamflgcnbaaDoorPureNameQuotes
import Derived.Test.YtacdiamflgcnbaaDoorNmLaw6
set_option linter.unusedVariables false
set_option linter.unusedSimpArgs false
namespace Go.Proofs.YtacdiamflgcnbaaDoor.Pure
open Go.RowKit Go.Proofs.YtacdiamflgcnbaaDoor.PNa Go.Proofs.YtacdiamflgcnbaaDoor.Nm Go.Proofs.YtacdiamflgcnbaaDoorW.PrintWords Go.Proofs.YtacdiamflgcnbaaDoorW.PrintLast Go.Proofs.YtacdiamflgcnbaaDoorW.PrintMore
namespace Orders
open Quotes (wr bt_from size_from quote_toL quote_size quote_size_le prog_back known_ev toL_eq)
/-- The number that bytes spell, the greatest first. -/
def val : List UInt8 → Nat
  | [] => 0
  | b :: t => b.toNat * 256 ^ t.length + val t
theorem val_lt : ∀ l : List UInt8, val l < 256 ^ l.length
  | [] => by simp [val]
  | b :: t => by
    have h1 := val_lt t
    have h2 := b.toNat_lt
    simp only [val, List.length_cons, Nat.pow_succ]
    have : b.toNat * 256 ^ t.length ≤ 255 * 256 ^ t.length := Nat.mul_le_mul_right _ (by omega)
    omega
theorem less_val : ∀ (x y : List UInt8), x.length = y.length → Op.bytesLess x y = decide (val x < val y)
  | [], [], _ => by simp [Op.bytesLess, val]
  | [], b :: t, h => by simp at h
  | a :: s, [], h => by simp at h
  | a :: s, b :: t, h => by
    have hl : s.length = t.length := by simpa using h
    have ih := less_val s t hl
    have h1 := val_lt s
    have h2 := val_lt t
    rw [hl] at h1
    simp only [Op.bytesLess, val, ih, hl]
    generalize 256 ^ t.length = q at *
    rcases Nat.lt_trichotomy a.toNat b.toNat with g | g | g
    · have h3 : (a.toNat + 1) * q ≤ b.toNat * q := Nat.mul_le_mul_right _ g
      rw [Nat.add_mul, Nat.one_mul] at h3
      have c1 : a < b := UInt8.lt_iff_toNat_lt.2 g
      rw [decide_eq_true c1, decide_eq_true (by omega : a.toNat * q + val s < b.toNat * q + val t)]
      rfl
    · have c0 : a = b := UInt8.toNat_inj.1 g
      subst c0
      have c1 : ¬ a < a := fun x => by have := UInt8.lt_iff_toNat_lt.1 x; omega
      rw [decide_eq_false c1]
      simp
    · have h3 : (b.toNat + 1) * q ≤ a.toNat * q := Nat.mul_le_mul_right _ g
      rw [Nat.add_mul, Nat.one_mul] at h3
      have c1 : ¬ a < b := fun x => by have := UInt8.lt_iff_toNat_lt.1 x; omega
      have c2 : (a == b) = false := beq_eq_false_iff_ne.mpr (fun x => by subst x; omega)
      rw [decide_eq_false c1, c2, decide_eq_false (by omega : ¬ a.toNat * q + val s < b.toNat * q + val t)]
      rfl
theorem less_pre (p x y : List UInt8) : Op.bytesLess (p ++ x) (p ++ y) = Op.bytesLess x y := by
  induction p with
  | nil => rfl
  | cons b p ih => simp [Op.bytesLess, ih]
theorem val_key (n : Nat) (h : n < 18446744073709551616) : val ((List.range 8).map (keyB n)) = n := by
  have e : (List.range 8).map (keyB n) = [keyB n 0, keyB n 1, keyB n 2, keyB n 3, keyB n 4, keyB n 5, keyB n 6, keyB n 7] := rfl
  rw [e]
  simp only [val, List.length_cons, List.length_nil, keyB_toNat, Nat.reduceMul, Nat.reduceSub, Nat.reducePow, Nat.reduceAdd, Nat.div_one]
  omega
theorem key_less (l : List UInt8) (m n : Nat) (hm : m < 18446744073709551616) (hn : n < 18446744073709551616) : Op.bytesLess (keyL l m 8) (keyL l n 8) = decide (m < n) := by
  unfold keyL
  rw [List.append_assoc, List.append_assoc, less_pre, less_pre, less_val _ _ (by simp), val_key m hm, val_key n hn]
/-- A quoted front's end. -/
theorem quoted_end (t : ByteArray) (hs : t.size ≤ 200000) {u o : List UInt8} (h : Qd u o) : ∀ (j : Nat) (rest : List UInt8), t.data.toList.drop j = o ++ 34 :: rest → j ≤ t.size →
    Ev (fun k => name_quoted.l0 k t j) ((j + o.length + 1 : Nat) : Int) := by
  have rawstep : ∀ (j : Nat) (c : UInt8) (L : List UInt8) (v : Int), t.data.toList.drop j = c :: L → j ≤ t.size → c ≠ 92 → c ≠ 34 → Ev (fun k => name_quoted.l0 k t ((j + 1 : Nat) : Int)) v → Ev (fun k => name_quoted.l0 k t j) v := by
    intro j c L v hd hj h1 h2 hv
    have hz := size_from hd hj
    simp only [List.length_cons] at hz
    have b0 := bt_from hd 0 (by simp)
    have e0 : bt t (j : Int) = ((c.toNat : Nat) : Int) := b0
    refine Ev.step (fun k => ?_) hv
    simp only [name_quoted.l0]
    rw [if_pos (by omega), if_pos (by omega), e0, if_neg (fun e => h1 (UInt8.toNat_inj.1 (by show c.toNat = 92; omega))), if_neg (fun e => h2 (UInt8.toNat_inj.1 (by show c.toNat = 34; omega))), wr _ (by omega) (by omega)]
    rfl
  have escstep : ∀ (j : Nat) (c : UInt8) (L : List UInt8) (v : Int), t.data.toList.drop j = 92 :: c :: L → j ≤ t.size → Ev (fun k => name_quoted.l0 k t ((j + 2 : Nat) : Int)) v → Ev (fun k => name_quoted.l0 k t j) v := by
    intro j c L v hd hj hv
    have hz := size_from hd hj
    simp only [List.length_cons] at hz
    have b0 := bt_from hd 0 (by simp)
    have e0 : bt t (j : Int) = 92 := b0
    refine Ev.step (fun k => ?_) hv
    simp only [name_quoted.l0]
    rw [if_pos (by omega), if_pos (by omega), if_pos e0, wr ((j : Int) + 1) (by omega) (by omega), wr _ (by omega) (by omega)]
    rfl
  have dig_ne : ∀ d : Fin 16, dig d.val ≠ 92 ∧ dig d.val ≠ 34 := by decide +kernel
  induction h with
  | nil =>
    intro j rest hd hj
    have hz := size_from hd hj
    simp only [List.nil_append, List.length_cons] at hz
    have b0 := bt_from hd 0 (by simp)
    have e0 : bt t (j : Int) = 34 := b0
    refine Ev.step (f := fun _ => some ((j + 0 + 1 : Nat) : Int)) (fun k => ?_) (Ev.now _)
    simp only [name_quoted.l0]
    rw [if_pos (by omega), if_pos (by omega), if_neg (by omega), if_pos e0, wr _ (by omega) (by omega)]
    rfl
  | hex c u o h ih =>
    intro j rest hd hj
    have hz := size_from hd hj
    simp only [List.length_append, List.length_cons] at hz
    have hc := toNat_lt c
    have n2 := dig_ne ⟨c.toNat / 16, by omega⟩
    have n3 := dig_ne ⟨c.toNat % 16, by omega⟩
    have hd2 : t.data.toList.drop (j + 2) = dig (c.toNat / 16) :: dig (c.toNat % 16) :: (o ++ 34 :: rest) := by rw [← List.drop_drop, hd]; rfl
    have hd3 : t.data.toList.drop (j + 3) = dig (c.toNat % 16) :: (o ++ 34 :: rest) := by rw [show j + 3 = (j + 2) + 1 by omega, ← List.drop_drop, hd2]; rfl
    have hd4 : t.data.toList.drop (j + 4) = o ++ 34 :: rest := by rw [show j + 4 = (j + 3) + 1 by omega, ← List.drop_drop, hd3]; rfl
    have hn := ih (j + 4) rest hd4 (by omega)
    rw [show j + (92 :: 120 :: dig (c.toNat / 16) :: dig (c.toNat % 16) :: o).length + 1 = j + 4 + o.length + 1 by simp only [List.length_cons]; omega]
    exact escstep j 120 _ _ hd hj (rawstep (j + 2) _ _ _ hd2 (by omega) n2.1 n2.2 (rawstep (j + 3) _ _ _ hd3 (by omega) n3.1 n3.2 hn))
  | esc c u o hc h ih =>
    intro j rest hd hj
    have hz := size_from hd hj
    simp only [List.length_append, List.length_cons] at hz
    have hd2 : t.data.toList.drop (j + 2) = o ++ 34 :: rest := by rw [← List.drop_drop, hd]; rfl
    have hn := ih (j + 2) rest hd2 (by omega)
    rw [show j + (92 :: c :: o).length + 1 = j + 2 + o.length + 1 by simp only [List.length_cons]; omega]
    exact escstep j c _ _ hd hj hn
  | raw c u o h1 h2 h ih =>
    intro j rest hd hj
    have hz := size_from hd hj
    simp only [List.length_append, List.length_cons] at hz
    have hd2 : t.data.toList.drop (j + 1) = o ++ 34 :: rest := by rw [← List.drop_drop, hd]; rfl
    have hn := ih (j + 1) rest hd2 (by omega)
    rw [show j + (c :: o).length + 1 = j + 1 + o.length + 1 by simp only [List.length_cons]; omega]
    exact rawstep j c _ _ hd hj h1 h2 hn
theorem blank_ok (b : Int) : name_blank.f b = some (decide (b = 32 ∨ b = 9 ∨ b = 10 ∨ b = 13)) := by
  unfold name_blank.f
  by_cases h1 : b = 32 <;> by_cases h2 : b = 9 <;> by_cases h3 : b = 10 <;> by_cases h4 : b = 13 <;> simp_all
theorem blank_step (t : ByteArray) (hs : t.size ≤ 200000) (acc : List ByteArray) (i : Nat) (c : UInt8) (L : List UInt8) (hd : t.data.toList.drop i = c :: L) (hi : i ≤ t.size) (hc : c = 32 ∨ c = 10) (r : List ByteArray)
    (h : Ev (fun k => name_Words.l0 k t acc ((i + 1 : Nat) : Int)) r) : Ev (fun k => name_Words.l0 k t acc i) r := by
  have hz := size_from hd hi
  simp only [List.length_cons] at hz
  have b0 := bt_from hd 0 (by simp)
  have e0 : bt t (i : Int) = ((c.toNat : Nat) : Int) := b0
  have hb : decide (((c.toNat : Nat) : Int) = 32 ∨ ((c.toNat : Nat) : Int) = 9 ∨ ((c.toNat : Nat) : Int) = 10 ∨ ((c.toNat : Nat) : Int) = 13) = true := by rcases hc with rfl | rfl <;> decide
  refine Ev.step (fun k => ?_) h
  simp only [name_Words.l0]
  rw [if_pos (by omega), if_pos (by omega), e0, blank_ok, hb, Option.bind_some, if_pos rfl, wr _ (by omega) (by omega)]
  rfl
/-- One quoted word, between blanks. -/
theorem word_step (t : ByteArray) (hs : t.size ≤ 200000) (acc : List ByteArray) (hacc : acc.length ≤ 100000) (i : Nat) (u o rest : List UInt8) (hq : Qd u o) (hd : t.data.toList.drop i = 32 :: 34 :: (o ++ 34 :: 10 :: rest)) (hi : i ≤ t.size) (r : List ByteArray)
    (h : Ev (fun k => name_Words.l0 k t (acc ++ [⟨(34 :: (o ++ [34])).toArray⟩]) ((i + o.length + 4 : Nat) : Int)) r) : Ev (fun k => name_Words.l0 k t acc i) r := by
  have hz := size_from hd hi
  simp only [List.length_cons, List.length_append] at hz
  have hd1 : t.data.toList.drop (i + 1) = 34 :: (o ++ 34 :: 10 :: rest) := by rw [← List.drop_drop, hd]; rfl
  have hd3 : t.data.toList.drop (i + o.length + 3) = 10 :: rest := by
    rw [show i + o.length + 3 = (i + 1) + (o.length + 2) by omega, ← List.drop_drop, hd1]
    rw [show 34 :: (o ++ 34 :: 10 :: rest) = (34 :: (o ++ [34])) ++ (10 :: rest) by simp]
    rw [List.drop_append_of_le_length (by simp), List.drop_of_length_le (by simp)]
    rfl
  refine blank_step t hs acc i 32 _ hd hi (.inl rfl) r ?_
  have b1 := bt_from hd1 0 (by simp)
  have e1 : bt t ((i + 1 : Nat) : Int) = 34 := b1
  have b3 := bt_from hd3 0 (by simp)
  have e3 : bt t ((i + o.length + 3 : Nat) : Int) = 10 := b3
  have hext : (t.extract (i + 1) t.size).data.toList = 34 :: (o ++ 34 :: 10 :: rest) := by rw [ext_drop, hd1]
  have hesz : (t.extract (i + 1) t.size).size = t.size - (i + 1) := by rw [ByteArray.size_extract]; omega
  have hqe := quoted_end (t.extract (i + 1) t.size) (by omega) hq 1 (10 :: rest) (by rw [hext]; rfl) (by omega)
  have hw : t.extract (i + 1) (i + o.length + 3) = ⟨(34 :: (o ++ [34])).toArray⟩ := by
    apply WideShapes.bytes_inj
    rw [ext_toL, List.drop_take, hd1, show i + o.length + 3 - (i + 1) = o.length + 2 by omega]
    rw [show 34 :: (o ++ 34 :: 10 :: rest) = (34 :: (o ++ [34])) ++ (10 :: rest) by simp]
    rw [List.take_append_of_le_length (by simp), List.take_of_length_le (by simp)]
  have h' : Ev (fun k => name_Words.l0 k t (acc ++ [⟨(34 :: (o ++ [34])).toArray⟩]) ((i + o.length + 3 : Nat) : Int)) r := blank_step t hs _ (i + o.length + 3) 10 rest hd3 (by omega) (.inr rfl) r h
  rw [← hw] at h'
  refine Ev.step (f := fun k => (name_quoted.f k (t.extract (i + 1) t.size)).bind fun t102 => (name_Words.j1 k t acc (wrap64 (((i + 1 : Nat) : Int) + t102)) ((i + 1 : Nat) : Int))) (fun k => ?_) (Ev.bind hqe ?_)
  · simp only [name_Words.l0]
    rw [if_pos (by omega), if_pos (by omega), e1, blank_ok, Option.bind_some, if_neg (by decide), if_pos rfl, if_pos (by omega), Int.toNat_natCast]
  · refine Ev.step (f := fun k => name_Words.l1 k t acc ((i + o.length + 3 : Nat) : Int) ((i + 1 : Nat) : Int)) (fun k => ?_) (Ev.step (fun k => ?_) h')
    · simp only [name_Words.j1]
      rw [wr _ (by omega) (by omega), show ((i + 1 : Nat) : Int) + ((1 + o.length + 1 : Nat) : Int) = ((i + o.length + 3 : Nat) : Int) by omega]
    · simp only [name_Words.l1]
      rw [if_pos (by omega), if_pos (by omega), e3, blank_ok, Option.bind_some, if_pos (by decide), if_pos (by omega), if_pos (by omega), if_pos (by omega), if_pos (by omega), Int.toNat_natCast, Int.toNat_natCast]
/-- The law's text: each word quoted, a blank before it, a line's end behind. -/
def textT : List ByteArray → List UInt8
  | [] => []
  | a :: l => 32 :: 34 :: (quoteFrom a a.size 0 ++ 34 :: 10 :: textT l)
def qw (a : ByteArray) : ByteArray := ⟨(quoteL a).toArray⟩
theorem qw_eq (a : ByteArray) : qw a = ⟨(34 :: (quoteFrom a a.size 0 ++ [34])).toArray⟩ := rfl
theorem text_len (l : List ByteArray) : (textT l).length ≤ 4 * (l.map ByteArray.size).sum + 4 * l.length := by
  induction l with
  | nil => simp [textT]
  | cons a l ih =>
    have h1 := quote_size_le a
    have h2 := quote_size a
    simp only [textT, List.length_cons, List.length_append, List.map_cons, List.sum_cons]
    omega
theorem words_loop (t : ByteArray) (hs : t.size ≤ 200000) : ∀ (l : List ByteArray) (i : Nat) (acc : List ByteArray), t.data.toList.drop i = textT l → i ≤ t.size → acc.length + l.length ≤ 1000 →
    Ev (fun k => name_Words.l0 k t acc i) (acc ++ l.map qw) := by
  intro l
  induction l with
  | nil =>
    intro i acc hd hi hl
    have hz := size_from hd hi
    simp only [textT, List.length_nil] at hz
    rw [List.map_nil, List.append_nil]
    refine Ev.step (f := fun _ => some acc) (fun k => ?_) (Ev.now _)
    simp only [name_Words.l0]
    rw [if_neg (by omega)]
  | cons a l ih =>
    intro i acc hd hi hl
    have hz := size_from hd hi
    simp only [textT, List.length_cons, List.length_append] at hz hl
    have hn : t.data.toList.drop (i + (quoteFrom a a.size 0).length + 4) = textT l := by
      rw [show i + (quoteFrom a a.size 0).length + 4 = i + ((quoteFrom a a.size 0).length + 4) by omega, ← List.drop_drop, hd]
      simp only [textT]
      rw [show 32 :: 34 :: (quoteFrom a a.size 0 ++ 34 :: 10 :: textT l) = (32 :: 34 :: (quoteFrom a a.size 0 ++ [34, 10])) ++ textT l by simp]
      rw [List.drop_append_of_le_length (by simp), List.drop_of_length_le (by simp)]
      rfl
    have hw := ih (i + (quoteFrom a a.size 0).length + 4) (acc ++ [qw a]) hn (by omega) (by simp; omega)
    rw [List.append_assoc] at hw
    exact word_step t hs acc (by omega) i a.data.toList (quoteFrom a a.size 0) (textT l) (quote_qd a) hd hi _ hw
theorem rdOf_at (d : ByteArray) (l : List ByteArray) (i : Nat) (h : i < l.length) : rdOf d l (i : Int) = l[i] := by
  unfold rdOf
  rw [Int.toNat_natCast]
  simp [List.getD, h]
theorem back_loop (l : List ByteArray) (hl : l.length ≤ 1000) (hsz : ∀ a ∈ l, a.size ≤ 40000) : ∀ (d i : Nat), l.length - i ≤ d → Ev (fun k => flintlaw2_NameOrders.l2 k l (l.map qw) i) true := by
  intro d
  have hbase : ∀ i : Nat, ¬ i < l.length → Ev (fun k => flintlaw2_NameOrders.l2 k l (l.map qw) i) true := by
    intro i hi
    refine Ev.step (f := fun _ => some true) (fun k => ?_) (Ev.now _)
    simp only [flintlaw2_NameOrders.l2]
    rw [if_neg (by omega)]
  induction d with
  | zero => exact fun i h => hbase i (by omega)
  | succ d ih =>
    intro i h
    by_cases hi : i < l.length
    · have hb := prog_back l[i] (hsz _ (List.getElem_mem hi))
      have e1 : rdOf ByteArray.empty (l.map qw) (i : Int) = qw l[i] := by rw [rdOf_at _ _ _ (by simpa using hi)]; simp
      have e2 := rdOf_at ByteArray.empty l i hi
      refine Ev.step (f := fun k => (name_Unquote.f k (qw l[i])).bind fun bt308 => (if bt308.2 = 0 then (if bt308.1.toList = (l[i]).toList then (flintlaw2_NameOrders.l2 k l (l.map qw) ((i + 1 : Nat) : Int)) else (some false)) else (some false))) (fun k => ?_) (Ev.bind hb ?_)
      · simp only [flintlaw2_NameOrders.l2]
        rw [if_pos (by omega), if_pos (by omega), if_pos (by simp; omega), e1, e2, wr _ (by omega) (by omega)]
        rfl
      · simp only [if_true]
        exact ih (i + 1) (by omega)
    · exact hbase i hi
theorem textT_snoc (l : List ByteArray) (a : ByteArray) : textT (l ++ [a]) = textT l ++ (32 :: 34 :: (quoteFrom a a.size 0 ++ [34, 10])) := by
  induction l with
  | nil => simp [textT]
  | cons b l ih => simp [textT, ih]
theorem make_loop (l : List ByteArray) (hl : l.length ≤ 1000) (hsum : (l.map ByteArray.size).sum ≤ 10000) : ∀ (d i : Nat), l.length - i ≤ d → i ≤ l.length → Ev (fun k => flintlaw2_NameOrders.l1 k l ⟨(textT (l.take i)).toArray⟩ i) true := by
  intro d
  have hmem : ∀ a ∈ l, a.size ≤ 10000 := fun a ha => by
    have : a.size ≤ (l.map ByteArray.size).sum := by
      clear hl hsum
      induction l with
      | nil => cases ha
      | cons b l ih =>
        simp only [List.map_cons, List.sum_cons]
        rcases List.mem_cons.1 ha with rfl | ha
        · omega
        · have := ih ha; omega
    omega
  have htl := text_len l
  have hsize : ∀ x : List ByteArray, (⟨(textT x).toArray⟩ : ByteArray).size = (textT x).length := fun x => rfl
  have hbase : ∀ i : Nat, i = l.length → Ev (fun k => flintlaw2_NameOrders.l1 k l ⟨(textT (l.take i)).toArray⟩ i) true := by
    rintro i rfl
    rw [List.take_length]
    have hw := words_loop ⟨(textT l).toArray⟩ (by rw [hsize]; omega) l 0 [] rfl (by omega) (by simp; omega)
    refine Ev.step (f := fun k => (name_Words.f k ⟨(textT l).toArray⟩).bind fun t304 => (if (t304.length : Int) = (l.length : Int) then (flintlaw2_NameOrders.l2 k l t304 0) else (some false))) (fun k => ?_) (Ev.bind hw ?_)
    · simp only [flintlaw2_NameOrders.l1]
      rw [if_neg (by omega)]
    · have e : ((l.map qw).length : Int) = (l.length : Int) := by simp
      simp only [List.nil_append, if_pos e]
      exact back_loop l hl (fun a ha => by have := hmem a ha; omega) l.length 0 (by omega)
  have htake : ∀ i, (textT (l.take i)).length ≤ 4 * (l.map ByteArray.size).sum + 4 * l.length := by
    intro i
    have h1 := text_len (l.take i)
    have h2 : ((l.take i).map ByteArray.size).sum ≤ (l.map ByteArray.size).sum := by
      have : (l.map ByteArray.size).sum = ((l.take i).map ByteArray.size).sum + ((l.drop i).map ByteArray.size).sum := by
        rw [← List.sum_append, ← List.map_append, List.take_append_drop]
      omega
    have h3 : (l.take i).length ≤ l.length := by simp; omega
    omega
  induction d with
  | zero => exact fun i h1 h2 => hbase i (by omega)
  | succ d ih =>
    intro i h1 h2
    by_cases hi : i < l.length
    · have hn := ih (i + 1) (by omega) (by omega)
      have ha := hmem _ (List.getElem_mem hi)
      have e2 := rdOf_at ByteArray.empty l i hi
      have hq : name_Quote.f l[i] = some (qw l[i]) := by unfold name_Quote.f; rw [if_pos (by omega)]; rfl
      have et : l.take (i + 1) = l.take i ++ [l[i]] := by rw [List.take_add_one, List.getElem?_eq_getElem hi]; rfl
      have hqs : (qw l[i]).size ≤ 4 * (l[i]).size + 2 := quote_size_le l[i]
      have hti := htake i
      have hcat : ((⟨(textT (l.take i)).toArray⟩ ++ (⟨#[32]⟩ : ByteArray)) ++ qw l[i]) ++ (⟨#[10]⟩ : ByteArray) = ⟨(textT (l.take (i + 1))).toArray⟩ := by
        apply WideShapes.bytes_inj
        rw [et, textT_snoc, toL_append, toL_append, toL_append, qw_eq]
        simp
      rw [← hcat] at hn
      refine Ev.step (fun k => ?_) hn
      simp only [flintlaw2_NameOrders.l1]
      have z1 : (⟨(textT (l.take i)).toArray⟩ ++ (⟨#[32]⟩ : ByteArray)).size = (textT (l.take i)).length + 1 := by rw [ByteArray.size_append]; rfl
      have z2 : ((⟨(textT (l.take i)).toArray⟩ ++ (⟨#[32]⟩ : ByteArray)) ++ qw l[i]).size = (textT (l.take i)).length + 1 + (qw l[i]).size := by rw [ByteArray.size_append, z1]
      rw [if_pos (by omega), if_pos (by rw [hsize]; omega), if_pos (by omega), e2, hq, Option.bind_some, if_pos (by rw [z1]; omega), if_pos (by rw [z2]; omega), wr _ (by omega) (by omega)]
      rfl
    · exact hbase i (by omega)
theorem sum_loop (s : ByteArray) (a b : Int) (l : List ByteArray) (hl : l.length ≤ 2000000) (hj : ∀ c : Bool, (c = true ∨ (s.size + (l.map ByteArray.size).sum ≤ 8192 ∧ l.length ≤ 200)) → Ev (fun k => flintlaw2_NameOrders.j1 k s a b l c) true) (hsum : s.size + (l.map ByteArray.size).sum ≤ 3000000) :
    ∀ (d i : Nat), l.length - i ≤ d → i ≤ l.length → Ev (fun k => flintlaw2_NameOrders.l0 k s a b l ((s.size + ((l.take i).map ByteArray.size).sum : Nat) : Int) i) true := by
  intro d
  have hbase : ∀ i : Nat, i = l.length → Ev (fun k => flintlaw2_NameOrders.l0 k s a b l ((s.size + ((l.take i).map ByteArray.size).sum : Nat) : Int) i) true := by
    rintro i rfl
    rw [List.take_length]
    by_cases h : ((s.size + (l.map ByteArray.size).sum : Nat) : Int) > 8192
    · refine Ev.step (fun k => ?_) (hj true (.inl rfl))
      simp only [flintlaw2_NameOrders.l0]
      rw [if_neg (by omega), if_pos h]
    · refine Ev.step (fun k => ?_) (hj (decide ((l.length : Int) > 200)) ?_)
      · simp only [flintlaw2_NameOrders.l0]
        rw [if_neg (by omega), if_neg h]
      · by_cases h2 : (l.length : Int) > 200
        · exact .inl (decide_eq_true h2)
        · exact .inr ⟨by omega, by omega⟩
  induction d with
  | zero => exact fun i h1 h2 => hbase i (by omega)
  | succ d ih =>
    intro i h1 h2
    by_cases hi : i < l.length
    · have hn := ih (i + 1) (by omega) (by omega)
      have e2 := rdOf_at ByteArray.empty l i hi
      have et : l.take (i + 1) = l.take i ++ [l[i]] := by rw [List.take_add_one, List.getElem?_eq_getElem hi]; rfl
      have hle : ((l.take (i + 1)).map ByteArray.size).sum ≤ (l.map ByteArray.size).sum := by
        have : (l.map ByteArray.size).sum = ((l.take (i + 1)).map ByteArray.size).sum + ((l.drop (i + 1)).map ByteArray.size).sum := by
          rw [← List.sum_append, ← List.map_append, List.take_append_drop]
        omega
      have es : ((l.take (i + 1)).map ByteArray.size).sum = ((l.take i).map ByteArray.size).sum + (l[i]).size := by rw [et, List.map_append, List.sum_append]; simp
      refine Ev.step (fun k => ?_) hn
      simp only [flintlaw2_NameOrders.l0]
      rw [if_pos (by omega), if_pos (by omega), e2, wr (((s.size + ((l.take i).map ByteArray.size).sum : Nat) : Int) + ((l[i]).size : Int)) (by omega) (by omega), wr ((i : Int) + 1) (by omega) (by omega), es]
      congr 1 <;> omega
    · exact hbase i (by omega)
end Orders
open Orders
theorem NameOrders (s : ByteArray) (a' b' : Int) (l : List ByteArray) (b0 : s.size ≤ 1048576) (wa : (Lit.int .u64 a').wf = true) (wb : (Lit.int .u64 b').wf = true) (bl : (l.map ByteArray.size).sum + l.length ≤ 1048576) : ∃ k, flintlaw2_NameOrders.f k s a' b' l = some true := by
  have ha : 0 ≤ a' ∧ a' < 18446744073709551616 := by
    have h2 : IntKind.u64.min = 0 := rfl
    have h3 : IntKind.u64.max = 18446744073709551615 := rfl
    simp [Lit.wf, h2, h3] at wa; omega
  have hb : 0 ≤ b' ∧ b' < 18446744073709551616 := by
    have h2 : IntKind.u64.min = 0 := rfl
    have h3 : IntKind.u64.max = 18446744073709551615 := rfl
    simp [Lit.wf, h2, h3] at wb; omega
  obtain ⟨a, rfl⟩ := Int.eq_ofNat_of_zero_le ha.1
  obtain ⟨b, rfl⟩ := Int.eq_ofNat_of_zero_le hb.1
  refine Ev.rounds (g := fun k => flintlaw2_NameOrders.f k s a b l) ?_
  unfold flintlaw2_NameOrders.f
  refine Ev.bind Quotes.known_ev ?_
  simp only [if_true]
  refine sum_loop s a b l (by omega) ?_ (by omega) l.length 0 (by omega) (by omega)
  rintro c (rfl | hc)
  · exact Ev.step (f := fun _ => some true) (fun k => by simp [flintlaw2_NameOrders.j1]) (Ev.now _)
  · cases c with
    | true => exact Ev.step (f := fun _ => some true) (fun k => by simp [flintlaw2_NameOrders.j1]) (Ev.now _)
    | false =>
      have k1 : name_Key.f s (a : Int) = some ⟨(keyL s.data.toList a 8).toArray⟩ := by
        unfold name_Key.f; rw [if_pos ⟨by omega, by omega, by omega⟩]; rfl
      have k2 : name_Key.f s (b : Int) = some ⟨(keyL s.data.toList b 8).toArray⟩ := by
        unfold name_Key.f; rw [if_pos ⟨by omega, by omega, by omega⟩]; rfl
      have hless : Op.bytesLess (⟨(keyL s.data.toList a 8).toArray⟩ : ByteArray).toList (⟨(keyL s.data.toList b 8).toArray⟩ : ByteArray).toList = decide ((a : Int) < (b : Int)) := by
        rw [ByteArray.toList_eq, ByteArray.toList_eq, mk_toL, mk_toL, key_less _ a b (by omega) (by omega)]
        simp
      refine Ev.step (fun k => ?_) (make_loop l (by omega) (by omega) l.length 0 (by omega) (by omega))
      simp only [flintlaw2_NameOrders.j1, Bool.false_eq_true, if_false, k1, k2, Option.bind_some, hless]
      rw [if_neg (by simp)]
      rfl
end Go.Proofs.YtacdiamflgcnbaaDoor.Pure
