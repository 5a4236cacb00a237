/-
  The two packages part a text into the same words.
-/
import Derived.Test.YtacdiamflgcnbaaDoorPNbWords
set_option linter.unusedVariables false
set_option linter.unusedSimpArgs false
namespace Go.Proofs.YtacdiamflgcnbaaDoor.Pure
open Go.RowKit Go.Proofs.YtacdiamflgcnbaaDoor.PNa Go.Proofs.YtacdiamflgcnbaaDoor.Nm Go.Proofs.YtacdiamflgcnbaaDoorW.PrintWords Go.Proofs.YtacdiamflgcnbaaDoorW.PrintLast Go.Proofs.YtacdiamflgcnbaaDoorW.PrintMore
theorem w64 {i : Int} (h0 : 0 ≤ i) (h1 : i < 1000000) : wrap64 i = i := by unfold wrap64; omega
theorem known_ok : flintlaw2_known.f 60 = some true := by decide +kernel
theorem known_ev : Ev (fun k => flintlaw2_known.f k) true := Ev.of flintlaw2_known.mono known_ok
def blk (b : Int) : Bool := decide (b = 32 ∨ b = 9 ∨ b = 10 ∨ b = 13)
theorem blank1 (b : Int) : name_blank.f b = some (blk b) := by
  unfold name_blank.f blk
  by_cases h1 : b = 32 <;> by_cases h2 : b = 9 <;> by_cases h3 : b = 10 <;> by_cases h4 : b = 13 <;> simp_all
theorem blank2 (b : Int) : flintref2_blank.f b = some (blk b) := blank1 b
theorem bt_extract (s : ByteArray) (a j : Nat) (h : a + j < s.size) : bt (s.extract a s.size) (j : Int) = bt s ((a + j : Nat) : Int) := by
  unfold bt
  have h1 : ((j : Int)).toNat < (s.extract a s.size).size := by rw [ByteArray.size_extract]; simp; omega
  have h2 : (((a + j : Nat) : Int)).toNat < s.size := by rw [Int.toNat_natCast]; exact h
  rw [dif_pos h1, dif_pos h2]
  simp only [Int.toNat_natCast, ByteArray.getElem_extract]
theorem ext_size (s : ByteArray) (a : Nat) (h : a ≤ s.size) : (s.extract a s.size).size = s.size - a := by rw [ByteArray.size_extract]; omega

section
variable (s : ByteArray)
/-- Where a word ends. -/
theorem wend (hs : s.size ≤ 100000) : ∀ (d i at' : Nat) (acc : List ByteArray), s.size - i ≤ d → at' ≤ i → i ≤ s.size → acc.length ≤ 100000 → ∃ e, i ≤ e ∧ e ≤ s.size ∧ (∀ r, Ev (fun k => name_Words.l0 k s (acc ++ [s.extract at' e]) e) r → Ev (fun k => name_Words.l1 k s acc i at') r) ∧
      (∀ r, Ev (fun k => flintref2_Words.l0 k s (acc ++ [s.extract at' e]) e) r → Ev (fun k => flintref2_Words.l2 k s acc i at') r) := by
  intro d
  induction d with
  | zero =>
    intro i at' acc h1 h2 h3 h4
    have hi : i = s.size := by omega
    subst hi
    refine ⟨s.size, Nat.le_refl _, Nat.le_refl _, fun r hr => ?_, fun r hr => ?_⟩
    · refine Ev.step (f := fun k => name_Words.l0 k s (acc ++ [s.extract at' s.size]) s.size) (fun k => ?_) hr
      simp only [name_Words.l1]
      rw [if_neg (by omega), if_pos (by omega), if_pos (by omega), if_pos (by omega), if_pos (by omega)]
      simp
    · refine Ev.step (f := fun k => flintref2_Words.l0 k s (acc ++ [s.extract at' s.size]) s.size) (fun k => ?_) hr
      simp only [flintref2_Words.l2]
      rw [if_neg (by omega), if_neg (by omega), if_pos (by omega), if_pos (by omega), if_pos (by omega), if_pos (by omega)]
      simp
  | succ d ih =>
    intro i at' acc h1 h2 h3 h4
    by_cases hi : i < s.size
    · by_cases hb : blk (bt s i) = true
      · refine ⟨i, Nat.le_refl _, h3, fun r hr => ?_, fun r hr => ?_⟩
        · refine Ev.step (f := fun k => name_Words.l0 k s (acc ++ [s.extract at' i]) i) (fun k => ?_) hr
          simp only [name_Words.l1]
          rw [if_pos (by omega), if_pos (by omega), blank1, Option.bind_some, if_pos hb, if_pos (by omega), if_pos (by omega), if_pos (by omega), if_pos (by omega)]
          simp
        · refine Ev.step (f := fun k => flintref2_Words.l0 k s (acc ++ [s.extract at' i]) i) (fun k => ?_) hr
          simp only [flintref2_Words.l2]
          rw [if_pos (by omega), if_pos (by omega), blank2, Option.bind_some, if_pos hb, if_neg (by omega), if_pos (by omega), if_pos (by omega), if_pos (by omega), if_pos (by omega)]
          simp
      · obtain ⟨e, e1, e2, e3, e4⟩ := ih (i + 1) at' acc (by omega) (by omega) (by omega) h4
        refine ⟨e, by omega, e2, fun r hr => ?_, fun r hr => ?_⟩
        · refine Ev.step (f := fun k => name_Words.l1 k s acc ((i + 1 : Nat) : Int) at') (fun k => ?_) (e3 r hr)
          simp only [name_Words.l1]
          rw [if_pos (by omega), if_pos (by omega), blank1, Option.bind_some, if_neg hb, w64 (by omega) (by omega)]
          rfl
        · refine Ev.step (f := fun k => flintref2_Words.l2 k s acc ((i + 1 : Nat) : Int) at') (fun k => ?_) (e4 r hr)
          simp only [flintref2_Words.l2]
          rw [if_pos (by omega), if_pos (by omega), blank2, Option.bind_some, if_neg hb, w64 (by omega) (by omega)]
          rfl
    · have hi : i = s.size := by omega
      obtain ⟨e, h⟩ := ih i at' acc (by omega) h2 h3 h4
      exact ⟨e, h⟩
/-- Where a quoted front ends. -/
theorem qend (hs : s.size ≤ 100000) (a : Nat) (ha : a < s.size) (acc : List ByteArray) : ∀ (d j : Nat), s.size - j ≤ d → a < j → j ≤ s.size + 1 → ∃ e e' : Nat, a < e ∧ e ≤ s.size ∧ (e' = e ∨ (s.size < e' ∧ e = s.size)) ∧ e' ≤ s.size + 10 ∧
      Ev (fun k => name_quoted.l0 k (s.extract a s.size) ((j - a : Nat) : Int)) ((e - a : Nat) : Int) ∧
      (∀ r, Ev (fun k => flintref2_Words.j3 k s acc e' a) r → Ev (fun k => flintref2_Words.l1 k s acc j a) r) := by
  intro d
  have hz := ext_size s a (by omega)
  have hbase : ∀ j, s.size ≤ j → a < j → j ≤ s.size + 1 → ∃ e e' : Nat, a < e ∧ e ≤ s.size ∧ (e' = e ∨ (s.size < e' ∧ e = s.size)) ∧ e' ≤ s.size + 10 ∧
      Ev (fun k => name_quoted.l0 k (s.extract a s.size) ((j - a : Nat) : Int)) ((e - a : Nat) : Int) ∧
      (∀ r, Ev (fun k => flintref2_Words.j3 k s acc e' a) r → Ev (fun k => flintref2_Words.l1 k s acc j a) r) := by
    intro j h1 h2 h3
    refine ⟨s.size, j + 1, ha, Nat.le_refl _, .inr ⟨by omega, rfl⟩, by omega, ?_, fun r hr => ?_⟩
    · refine Ev.step (f := fun _ => some ((s.size - a : Nat) : Int)) (fun k => ?_) (Ev.now _)
      simp only [name_quoted.l0]
      rw [if_neg (by rw [hz]; omega), hz]
    · refine Ev.step (f := fun k => flintref2_Words.j2 k s acc j a false) (fun k => ?_) (Ev.step (f := fun k => flintref2_Words.j3 k s acc ((j + 1 : Nat) : Int) a) (fun k => ?_) hr)
      · simp only [flintref2_Words.l1]
        rw [if_neg (by omega)]
      · simp only [flintref2_Words.j2]
        rw [if_neg (by decide), w64 (by omega) (by omega)]
        rfl
  induction d with
  | zero => exact fun j h1 h2 h3 => hbase j (by omega) h2 h3
  | succ d ih =>
    intro j h1 h2 h3
    by_cases hj : j < s.size
    · have hbt : bt (s.extract a s.size) ((j - a : Nat) : Int) = bt s (j : Int) := by
        rw [bt_extract s a (j - a) (by omega), show a + (j - a) = j by omega]
      have t0 : (((j - a : Nat) : Int)) < ((s.extract a s.size).size : Int) := by rw [hz]; omega
      by_cases hq : bt s (j : Int) = 34
      · refine ⟨j + 1, j + 1, by omega, by omega, .inl rfl, by omega, ?_, fun r hr => ?_⟩
        · refine Ev.step (f := fun _ => some ((j + 1 - a : Nat) : Int)) (fun k => ?_) (Ev.now _)
          simp only [name_quoted.l0]
          rw [if_pos t0, if_pos (by omega), hbt, if_neg (by omega), if_pos hq, w64 (by omega) (by omega)]
          congr 1; omega
        · refine Ev.step (f := fun k => flintref2_Words.j2 k s acc j a false) (fun k => ?_) (Ev.step (f := fun k => flintref2_Words.j3 k s acc ((j + 1 : Nat) : Int) a) (fun k => ?_) hr)
          · simp only [flintref2_Words.l1]
            rw [if_pos (by omega), if_pos (by omega), hq]
            rfl
          · simp only [flintref2_Words.j2]
            rw [if_neg (by decide), w64 (by omega) (by omega)]
            rfl
      · have hne : (bt s (j : Int) != 34) = true := by simpa using hq
        by_cases hb : bt s (j : Int) = 92
        · have hnx : ∃ e e' : Nat, a < e ∧ e ≤ s.size ∧ (e' = e ∨ (s.size < e' ∧ e = s.size)) ∧ e' ≤ s.size + 10 ∧
              Ev (fun k => name_quoted.l0 k (s.extract a s.size) ((j + 2 - a : Nat) : Int)) ((e - a : Nat) : Int) ∧
              (∀ r, Ev (fun k => flintref2_Words.j3 k s acc e' a) r → Ev (fun k => flintref2_Words.l1 k s acc ((j + 2 : Nat) : Int) a) r) := ih (j + 2) (by omega) (by omega) (by omega)
          obtain ⟨e, e', p1, p2, p3, p4, p5, p6⟩ := hnx
          refine ⟨e, e', p1, p2, p3, p4, ?_, fun r hr => ?_⟩
          · refine Ev.step (f := fun k => name_quoted.l0 k (s.extract a s.size) ((j + 2 - a : Nat) : Int)) (fun k => ?_) p5
            simp only [name_quoted.l0]
            rw [if_pos t0, if_pos (by omega), hbt, if_pos hb, w64 (i := ((j - a : Nat) : Int) + 1) (by omega) (by omega), w64 (by omega) (by omega)]
            congr 1; omega
          · refine Ev.step (f := fun k => flintref2_Words.j2 k s acc j a true) (fun k => ?_) (Ev.step (f := fun k => flintref2_Words.l1 k s acc ((j + 2 : Nat) : Int) a) (fun k => ?_) (p6 r hr))
            · simp only [flintref2_Words.l1]
              rw [if_pos (by omega), if_pos (by omega), hne]
            · simp only [flintref2_Words.j2]
              rw [if_pos trivial, if_pos (by omega), if_pos (by omega), if_pos hb, w64 (i := (j : Int) + 1) (by omega) (by omega), w64 (by omega) (by omega)]
              rfl
        · obtain ⟨e, e', p1, p2, p3, p4, p5, p6⟩ := ih (j + 1) (by omega) (by omega) (by omega)
          refine ⟨e, e', p1, p2, p3, p4, ?_, fun r hr => ?_⟩
          · refine Ev.step (f := fun k => name_quoted.l0 k (s.extract a s.size) ((j + 1 - a : Nat) : Int)) (fun k => ?_) p5
            simp only [name_quoted.l0]
            rw [if_pos t0, if_pos (by omega), hbt, if_neg hb, if_neg hq, w64 (by omega) (by omega)]
            congr 1; omega
          · refine Ev.step (f := fun k => flintref2_Words.j2 k s acc j a true) (fun k => ?_) (Ev.step (f := fun k => flintref2_Words.l1 k s acc ((j + 1 : Nat) : Int) a) (fun k => ?_) (p6 r hr))
            · simp only [flintref2_Words.l1]
              rw [if_pos (by omega), if_pos (by omega), hne]
            · simp only [flintref2_Words.j2]
              rw [if_pos trivial, if_pos (by omega), if_pos (by omega), if_neg hb, w64 (by omega) (by omega)]
              rfl
    · exact hbase j (by omega) h2 h3
end
/-- From place i on, both find the same words. -/
theorem words_same (s : ByteArray) (hs : s.size ≤ 100000) : ∀ (d i : Nat) (acc : List ByteArray), s.size - i ≤ d → i ≤ s.size → acc.length ≤ i → ∃ r : List ByteArray, r.length ≤ s.size ∧ Ev (fun k => name_Words.l0 k s acc i) r ∧ Ev (fun k => flintref2_Words.l0 k s acc i) r := by
  intro d
  have hbase : ∀ (i : Nat) (acc : List ByteArray), i = s.size → acc.length ≤ i → ∃ r : List ByteArray, r.length ≤ s.size ∧ Ev (fun k => name_Words.l0 k s acc i) r ∧ Ev (fun k => flintref2_Words.l0 k s acc i) r := by
    intro i acc h h2
    refine ⟨acc, by omega, Ev.step (f := fun _ => some acc) (fun k => ?_) (Ev.now _), Ev.step (f := fun _ => some acc) (fun k => ?_) (Ev.now _)⟩
    · simp only [name_Words.l0]
      rw [if_neg (by omega)]
    · simp only [flintref2_Words.l0]
      rw [if_neg (by omega)]
  induction d with
  | zero => exact fun i acc h1 h2 h3 => hbase i acc (by omega) h3
  | succ d ih =>
    intro i acc h1 h2 h3
    by_cases hi : i < s.size
    · by_cases hb : blk (bt s i) = true
      · obtain ⟨r, r0, r1, r2⟩ := ih (i + 1) acc (by omega) (by omega) (by omega)
        refine ⟨r, r0, Ev.step (f := fun k => name_Words.l0 k s acc ((i + 1 : Nat) : Int)) (fun k => ?_) r1, Ev.step (f := fun k => flintref2_Words.l0 k s acc ((i + 1 : Nat) : Int)) (fun k => ?_) r2⟩
        · simp only [name_Words.l0]
          rw [if_pos (by omega), if_pos (by omega), blank1, Option.bind_some, if_pos hb, w64 (by omega) (by omega)]
          rfl
        · simp only [flintref2_Words.l0]
          rw [if_pos (by omega), if_pos (by omega), blank2, Option.bind_some, if_pos hb, w64 (by omega) (by omega)]
          rfl
      · by_cases hq : bt s (i : Int) = 34
        · obtain ⟨e, e', p1, p2, p3, p4, p5, p6⟩ := qend s hs i hi acc (s.size) (i + 1) (by omega) (by omega) (by omega)
          obtain ⟨f, f1, f2, f3, f4⟩ := wend s hs s.size e i acc (by omega) (by omega) p2 (by omega)
          obtain ⟨r, r0, r1, r2⟩ := ih f (acc ++ [s.extract i f]) (by omega) f2 (by simp; omega)
          have a1 := f3 r r1
          have a2 := f4 r r2
          refine ⟨r, r0, ?_, ?_⟩
          · refine Ev.step (f := fun k => (name_quoted.f k (s.extract i s.size)).bind fun t => name_Words.j1 k s acc (wrap64 (i + t)) i) (fun k => ?_) (Ev.bind (a := ((e - i : Nat) : Int)) ?_ ?_)
            · simp only [name_Words.l0]
              rw [if_pos (by omega), if_pos (by omega), blank1, Option.bind_some, if_neg hb, if_pos hq, if_pos (by omega)]
              rfl
            · have := p5
              rw [show i + 1 - i = 1 by omega] at this
              exact this
            · refine Ev.step (f := fun k => name_Words.l1 k s acc (e : Nat) i) (fun k => ?_) a1
              simp only [name_Words.j1]
              rw [w64 (by omega) (by omega)]
              congr 1; omega
          · refine Ev.step (f := fun k => flintref2_Words.l1 k s acc ((i + 1 : Nat) : Int) i) (fun k => ?_) (p6 r ?_)
            · simp only [flintref2_Words.l0]
              rw [if_pos (by omega), if_pos (by omega), blank2, Option.bind_some, if_neg hb, if_pos hq, w64 (by omega) (by omega)]
              rfl
            · refine Ev.step (f := fun k => flintref2_Words.l2 k s acc (e' : Nat) i) (fun k => by simp only [flintref2_Words.j3]) ?_
              rcases p3 with rfl | ⟨p3, rfl⟩
              · exact a2
              · have hf : f = s.size := by omega
                subst hf
                refine Ev.step (f := fun k => flintref2_Words.l0 k s (acc ++ [s.extract i s.size]) (s.size : Nat)) (fun k => ?_) r2
                simp only [flintref2_Words.l2]
                rw [if_neg (by omega), if_pos (by omega), if_pos (by omega), if_pos (by omega), if_pos (by omega), if_pos (by omega)]
                simp
        · obtain ⟨f, f1, f2, f3, f4⟩ := wend s hs s.size (i + 1) i acc (by omega) (by omega) (by omega) (by omega)
          obtain ⟨r, r0, r1, r2⟩ := ih f (acc ++ [s.extract i f]) (by omega) f2 (by simp; omega)
          refine ⟨r, r0, ?_, ?_⟩
          · refine Ev.step (f := fun k => name_Words.j1 k s acc i i) (fun k => ?_) (Ev.step (f := fun k => name_Words.l1 k s acc i i) (fun k => by simp only [name_Words.j1]) (Ev.step (f := fun k => name_Words.l1 k s acc ((i + 1 : Nat) : Int) i) (fun k => ?_) (f3 r r1)))
            · simp only [name_Words.l0]
              rw [if_pos (by omega), if_pos (by omega), blank1, Option.bind_some, if_neg hb, if_neg hq]
            · simp only [name_Words.l1]
              rw [if_pos (by omega), if_pos (by omega), blank1, Option.bind_some, if_neg hb, w64 (by omega) (by omega)]
              rfl
          · refine Ev.step (f := fun k => flintref2_Words.j3 k s acc i i) (fun k => ?_) (Ev.step (f := fun k => flintref2_Words.l2 k s acc i i) (fun k => by simp only [flintref2_Words.j3]) (Ev.step (f := fun k => flintref2_Words.l2 k s acc ((i + 1 : Nat) : Int) i) (fun k => ?_) (f4 r r2)))
            · simp only [flintref2_Words.l0]
              rw [if_pos (by omega), if_pos (by omega), blank2, Option.bind_some, if_neg hb, if_neg hq]
            · simp only [flintref2_Words.l2]
              rw [if_pos (by omega), if_pos (by omega), blank2, Option.bind_some, if_neg hb, w64 (by omega) (by omega)]
              rfl
    · exact hbase i acc (by omega) h3
/-- A row of texts is the same as itself. -/
theorem same_loop (r : List ByteArray) (hr : r.length ≤ 100000) : ∀ d i : Nat, r.length - i ≤ d → Ev (fun k => flintlaw2_NameWords.l0 k r r i) true := by
  intro d
  induction d with
  | zero =>
    intro i h
    refine Ev.step (f := fun _ => some true) (fun k => ?_) (Ev.now _)
    simp only [flintlaw2_NameWords.l0]
    rw [if_neg (by omega)]
  | succ d ih =>
    intro i h
    by_cases hi : i < r.length
    · refine Ev.step (f := fun k => flintlaw2_NameWords.l0 k r r ((i + 1 : Nat) : Int)) (fun k => ?_) (ih (i + 1) (by omega))
      simp only [flintlaw2_NameWords.l0]
      rw [if_pos (by omega), if_pos (by omega), if_pos (by omega), if_pos trivial, w64 (by omega) (by omega)]
      rfl
    · refine Ev.step (f := fun _ => some true) (fun k => ?_) (Ev.now _)
      simp only [flintlaw2_NameWords.l0]
      rw [if_neg (by omega)]
theorem NameWords : flintlaw2_NameWords.Pure := by
  intro s hs
  refine Ev.rounds (g := fun k => flintlaw2_NameWords.f k s) ?_
  unfold flintlaw2_NameWords.f
  refine Ev.bind known_ev ?_
  simp only [if_true]
  by_cases hb : (s.size : Int) > 32768
  · simp only [if_pos hb]
    exact Ev.now _
  · simp only [if_neg hb]
    obtain ⟨r, r0, r1, r2⟩ := words_same s (by omega) s.size 0 [] (by omega) (by omega) (by simp)
    refine Ev.bind (a := r) r1 (Ev.bind (a := r) r2 ?_)
    simp only [if_true]
    have hF : foldF s = some ⟨(s.data.toList.map foldB).toArray⟩ := by unfold foldF; rw [if_pos hs]
    simp only [name_Fold.f, flintref2_Fold.f, hF, Option.bind_some]
    refine Ev.step (f := fun k => flintlaw2_NameWords.l0 k r r ((0 : Nat) : Int)) (fun k => ?_) (same_loop r (by omega) _ 0 (Nat.le_refl _))
    simp only [flintlaw2_NameWords.j0]
    rw [if_neg (by simp)]
    rfl
end Go.Proofs.YtacdiamflgcnbaaDoor.Pure
