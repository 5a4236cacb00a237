/-
  Plain sets of stretches: what Add makes of them.
-/
import Derived.Test.YtpfkfnphjbgohaaElNew
set_option linter.unusedVariables false
set_option linter.unusedSimpArgs false
namespace Go.Proofs.Ytpfkfnphjbgohaa.El
open Go.Proofs.Ytpfkfnphjbgohaa.PEa
/-- A fact is elided by a row. -/
def H (xs : List S27) (k : ByteArray) (s : Int) : Prop := ∃ x ∈ xs, x.f0 ≤ k ∧ k < x.f1 ∧ s ≤ x.f2
theorem hasB_iff {xs : List S27} {k : ByteArray} {s : Int} : hasB xs k s = true ↔ H xs k s := hasB_true
theorem H_nil {k : ByteArray} {s : Int} : H [] k s ↔ False := by simp [H]
theorem H_append {xs ys : List S27} {k : ByteArray} {s : Int} : H (xs ++ ys) k s ↔ H xs k s ∨ H ys k s := by
  simp only [H, List.mem_append]
  constructor
  · rintro ⟨x, hx | hx, h⟩
    · exact .inl ⟨x, hx, h⟩
    · exact .inr ⟨x, hx, h⟩
  · rintro (⟨x, hx, h⟩ | ⟨x, hx, h⟩)
    · exact ⟨x, .inl hx, h⟩
    · exact ⟨x, .inr hx, h⟩
theorem H_one {x : S27} {k : ByteArray} {s : Int} : H [x] k s ↔ x.f0 ≤ k ∧ k < x.f1 ∧ s ≤ x.f2 := by simp [H]
def Rr (x y : S27) : Prop := x.f1 ≤ y.f0 ∧ (x.f1 = y.f0 → x.f2 ≠ y.f2)
/-- Plain: in order, apart, none empty, none that could be one. -/
structure Cano (xs : List S27) : Prop where
  ord : xs.Pairwise Rr
  full : ∀ x ∈ xs, x.f0 < x.f1
theorem Cano.pln {xs : List S27} (h : Cano xs) : Pln xs := ⟨h.ord.imp (fun hr => hr.1), h.full⟩
theorem Cano.nil : Cano [] := ⟨List.Pairwise.nil, by simp⟩
theorem cano_snoc {ys : List S27} {z : S27} : Cano (ys ++ [z]) ↔ Cano ys ∧ (∀ y ∈ ys, Rr y z) ∧ z.f0 < z.f1 := by
  constructor
  · rintro ⟨h1, h2⟩
    rw [List.pairwise_append] at h1
    exact ⟨⟨h1.1, fun x hx => h2 x (by simp [hx])⟩, fun y hy => h1.2.2 y hy z (by simp), h2 z (by simp)⟩
  · rintro ⟨⟨h1, h2⟩, h3, h4⟩
    refine ⟨?_, ?_⟩
    · rw [List.pairwise_append]
      exact ⟨h1, by simp, fun a ha b hb => by simp at hb; subst hb; exact h3 a ha⟩
    · intro x hx
      simp at hx
      rcases hx with hx | rfl
      · exact h2 x hx
      · exact h4
theorem lay_cano {xs : List S27} {lo hi : ByteArray} {seq : Int} (h : Cano xs) (hlo : lo < hi → ∀ y ∈ xs, y.f1 ≤ lo) : Cano (layF xs lo hi seq) := by
  unfold layF
  split
  case isFalse => exact h
  case isTrue hlt =>
    have hlo := hlo hlt
    rcases List.eq_nil_or_concat xs with rfl | ⟨ys, z, hxs⟩
    · refine ⟨by simp, by simp; exact hlt⟩
    · rw [List.concat_eq_append] at hxs
      subst hxs
      simp only [List.getLast?_append, List.getLast?_singleton, Option.some_or]
      obtain ⟨h1, h2, h3⟩ := cano_snoc.mp h
      have hz := hlo z (by simp)
      split
      case isTrue hm =>
        rw [List.dropLast_concat]
        refine cano_snoc.mpr ⟨h1, fun y hy => ?_, ?_⟩
        · have := h2 y hy
          exact ⟨this.1, fun e => by have := this.2 e; simp only; rw [← hm.2]; exact this⟩
        · show z.f0 < hi
          grind
      case isFalse hm =>
        refine cano_snoc.mpr ⟨h, fun y hy => ?_, hlt⟩
        simp at hy
        rcases hy with hy | rfl
        · have h5 := h2 y hy
          have h6 := h5.1
          refine ⟨hlo y (by simp [hy]), fun e => ?_⟩
          exfalso
          simp only at e
          grind
        · exact ⟨hz, fun e e2 => hm ⟨e, e2⟩⟩
theorem lay_H {xs : List S27} {lo hi : ByteArray} {seq : Int} {k : ByteArray} {s : Int} (h : Cano xs) (hlo : lo < hi → ∀ y ∈ xs, y.f1 ≤ lo) : H (layF xs lo hi seq) k s ↔ H xs k s ∨ (lo ≤ k ∧ k < hi ∧ s ≤ seq) := by
  unfold layF
  split
  case isFalse hlt =>
    constructor
    · exact .inl
    · rintro (h | ⟨a, b, c⟩)
      · exact h
      · exfalso; grind
  case isTrue hlt =>
    rcases List.eq_nil_or_concat xs with rfl | ⟨ys, z, hxs⟩
    · simp [H_one, H_nil]
    · rw [List.concat_eq_append] at hxs
      subst hxs
      simp only [List.getLast?_append, List.getLast?_singleton, Option.some_or]
      obtain ⟨h1, h2, h3⟩ := cano_snoc.mp h
      split
      case isTrue hm =>
        rw [List.dropLast_concat, H_append, H_append, H_one, H_one]
        obtain ⟨rfl, rfl⟩ := hm
        simp only
        grind
      case isFalse hm =>
        rw [H_append, H_one]
theorem lay_mem {xs : List S27} {lo hi : ByteArray} {seq : Int} {P : S27 → Prop} (h : ∀ y ∈ xs, P y) (h1 : lo < hi → P ⟨lo, hi, seq⟩) (h2 : ∀ y ∈ xs, lo < hi → y.f1 = lo → y.f2 = seq → P ⟨y.f0, hi, seq⟩) : ∀ y ∈ layF xs lo hi seq, P y := by
  unfold layF
  split
  case isFalse => exact h
  case isTrue hlt =>
    rcases List.eq_nil_or_concat xs with rfl | ⟨ys, z, hxs⟩
    · simpa using h1 hlt
    · rw [List.concat_eq_append] at hxs
      subst hxs
      simp only [List.getLast?_append, List.getLast?_singleton, Option.some_or]
      split
      case isTrue hm =>
        rw [List.dropLast_concat]
        intro y hy
        simp at hy
        rcases hy with hy | rfl
        · exact h y (by simp [hy])
        · exact h2 z (by simp) hlt hm.1 hm.2
      case isFalse hm =>
        intro y hy
        simp only [List.mem_append, List.mem_singleton] at hy
        rcases hy with hy | rfl
        · exact h y (by simpa using hy)
        · exact h1 hlt
theorem lay_end_le {xs : List S27} {lo hi : ByteArray} {seq : Int} {F : ByteArray} (h : ∀ y ∈ xs, y.f1 ≤ F) (hF : lo < hi → hi ≤ F) : ∀ y ∈ layF xs lo hi seq, y.f1 ≤ F :=
  lay_mem (P := fun y => y.f1 ≤ F) h hF (fun y hy hlt _ _ => hF hlt)
/-- All ends are among B. -/
def Ends (B : List ByteArray) (xs : List S27) : Prop := ∀ y ∈ xs, y.f0 ∈ B ∧ y.f1 ∈ B
theorem lay_ends {B : List ByteArray} {xs : List S27} {lo hi : ByteArray} {seq : Int} (h : Ends B xs) (h1 : lo ∈ B) (h2 : hi ∈ B) : Ends B (layF xs lo hi seq) :=
  lay_mem (P := fun y => y.f0 ∈ B ∧ y.f1 ∈ B) h (fun _ => ⟨h1, h2⟩) (fun y hy _ _ _ => ⟨(h y hy).1, h2⟩)
theorem mxS_spec (a b : ByteArray) : a ≤ mxS a b ∧ b ≤ mxS a b ∧ (mxS a b = a ∨ mxS a b = b) := by
  unfold mxS; split <;> grind
theorem mnS_spec (a b : ByteArray) : mnS a b ≤ a ∧ mnS a b ≤ b ∧ (mnS a b = a ∨ mnS a b = b) := by
  unfold mnS; split <;> grind
structure Inv (B : List ByteArray) (e : S27) (pre post : List S27) (s : List S27 × ByteArray) : Prop where
  c : Cano s.1
  a0 : e.f0 ≤ s.2
  a1 : s.2 ≤ e.f1
  oe : s.2 = e.f1 ∨ ∀ y ∈ s.1, y.f1 ≤ s.2
  op : ∀ x ∈ post, ∀ y ∈ s.1, y.f1 ≤ x.f0
  ap : s.2 = e.f0 ∨ ∀ x ∈ post, s.2 ≤ x.f0
  h : ∀ k q, H s.1 k q ↔ H pre k q ∨ (e.f0 ≤ k ∧ k < e.f1 ∧ q ≤ e.f2 ∧ k < s.2)
  en : Ends B s.1
  at_ : s.2 ∈ B
theorem inv_step {B : List ByteArray} {e x : S27} {pre post : List S27} {s : List S27 × ByteArray} (hI : Inv B e pre (x :: post) s) (he : e.f0 < e.f1) (hx : x.f0 < x.f1) (hp : ∀ z ∈ post, x.f1 ≤ z.f0) (hB : e.f0 ∈ B ∧ e.f1 ∈ B ∧ x.f0 ∈ B ∧ x.f1 ∈ B) : Inv B e (pre ++ [x]) post (addStep e s x) := by
  obtain ⟨out, at_⟩ := s
  obtain ⟨c, a0, a1, oe, op, ap, h, en, ab⟩ := hI
  simp only at c a0 a1 oe op ap h en ab
  have op0 := op x (by simp)
  have opp : ∀ z ∈ post, ∀ y ∈ out, y.f1 ≤ z.f0 := fun z hz => op z (by simp [hz])
  have ap0 : at_ = e.f0 ∨ at_ ≤ x.f0 := by rcases ap with h | h; exact .inl h; exact .inr (h x (by simp))
  have app : at_ = e.f0 ∨ ∀ z ∈ post, at_ ≤ z.f0 := by rcases ap with h | h; exact .inl h; exact .inr (fun z hz => h z (by simp [hz]))
  unfold addStep
  by_cases h2 : e.f1 ≤ x.f0
  · rw [if_pos (.inr h2), if_pos h2]
    have l1 : at_ < e.f1 → ∀ y ∈ out, y.f1 ≤ at_ := fun hlt => by rcases oe with h | h; exfalso; grind; exact h
    have c1 := lay_cano (seq := e.f2) c l1
    have d1 : ∀ y ∈ layF out at_ e.f1 e.f2, y.f1 ≤ x.f0 := lay_end_le op0 (fun _ => h2)
    have c2 := lay_cano (seq := x.f2) (hi := x.f1) c1 (fun _ => d1)
    refine ⟨c2, by simp only; grind, by simp only; grind, .inl rfl, fun z hz => ?_, .inr fun z hz => ?_, fun k q => ?_, lay_ends (lay_ends en ab hB.2.1) hB.2.2.1 hB.2.2.2, hB.2.1⟩
    · have := hp z hz
      exact lay_end_le (fun y hy => by have := d1 y hy; grind) (fun _ => by grind)
    · have := hp z hz; show e.f1 ≤ z.f0; grind
    · rw [lay_H c1 (fun _ => d1), lay_H c l1, h, H_append, H_one]
      simp only
      grind
  · by_cases h1 : x.f1 ≤ e.f0
    · rw [if_pos (.inl h1), if_neg h2]
      have e1 : at_ = e.f0 := by rcases ap0 with h | h; exact h; grind
      have c2 := lay_cano (seq := x.f2) (hi := x.f1) c (fun _ => op0)
      refine ⟨c2, a0, a1, ?_, fun z hz => ?_, app, fun k q => ?_, lay_ends en hB.2.2.1 hB.2.2.2, ab⟩
      · simp only
        rcases oe with h | h
        · exact .inl h
        · exact .inr (lay_end_le h (fun _ => by grind))
      · have := hp z hz
        exact lay_end_le (fun y hy => opp z hz y hy) (fun _ => by grind)
      · rw [lay_H c (fun _ => op0), h, H_append, H_one]
        simp only
        grind
    · rw [if_neg (by rintro (g | g); exact h1 g; exact h2 g)]
      obtain ⟨M, hM⟩ : ∃ M, mxS x.f0 e.f0 = M := ⟨_, rfl⟩
      obtain ⟨N, hN⟩ : ∃ N, mnS x.f1 e.f1 = N := ⟨_, rfl⟩
      have sM := mxS_spec x.f0 e.f0
      have sN := mnS_spec x.f1 e.f1
      obtain ⟨q3, hq3⟩ : ∃ q3, (if x.f2 < e.f2 then e.f2 else x.f2) = q3 := ⟨_, rfl⟩
      have sq : ∀ q : Int, q ≤ q3 ↔ q ≤ x.f2 ∨ q ≤ e.f2 := fun q => by rw [← hq3]; split <;> omega
      rw [hM] at sM ⊢
      rw [hN] at sN ⊢
      rw [hq3]
      clear hM hN hq3
      have l1 : x.f0 < e.f0 → ∀ y ∈ out, y.f1 ≤ x.f0 := fun _ => op0
      have c1 := lay_cano (seq := x.f2) c l1
      have l2 : at_ < x.f0 → ∀ y ∈ layF out x.f0 e.f0 x.f2, y.f1 ≤ at_ := fun hlt => by
        refine lay_end_le ?_ (fun _ => a0)
        rcases oe with h | h
        · exfalso; grind
        · exact h
      have c2 := lay_cano (seq := e.f2) c1 l2
      have d2 : ∀ F, x.f0 ≤ F → e.f0 ≤ F → ∀ y ∈ layF (layF out x.f0 e.f0 x.f2) at_ x.f0 e.f2, y.f1 ≤ F := fun F g1 g2 =>
        lay_end_le (lay_end_le (fun y hy => by have := op0 y hy; grind) (fun _ => g2)) (fun _ => g1)
      have l3 : M < N → ∀ y ∈ layF (layF out x.f0 e.f0 x.f2) at_ x.f0 e.f2, y.f1 ≤ M := fun _ => d2 M sM.1 sM.2.1
      have c3 := lay_cano (seq := q3) c2 l3
      have d3 : ∀ F, x.f0 ≤ F → e.f0 ≤ F → N ≤ F → ∀ y ∈ layF (layF (layF out x.f0 e.f0 x.f2) at_ x.f0 e.f2) M N q3, y.f1 ≤ F := fun F g1 g2 g3 =>
        lay_end_le (d2 F g1 g2) (fun _ => g3)
      have l4 : e.f1 < x.f1 → ∀ y ∈ layF (layF (layF out x.f0 e.f0 x.f2) at_ x.f0 e.f2) M N q3, y.f1 ≤ e.f1 := fun _ => d3 e.f1 (by grind) (by grind) sN.2.1
      have c4 := lay_cano (seq := x.f2) c3 l4
      have d4 : ∀ F, x.f0 ≤ F → e.f0 ≤ F → N ≤ F → (e.f1 < x.f1 → x.f1 ≤ F) → ∀ y ∈ layF (layF (layF (layF out x.f0 e.f0 x.f2) at_ x.f0 e.f2) M N q3) e.f1 x.f1 x.f2, y.f1 ≤ F := fun F g1 g2 g3 g4 =>
        lay_end_le (d3 F g1 g2 g3) g4
      have bM : M ∈ B := by rcases sM.2.2 with h | h <;> rw [h]; exact hB.2.2.1; exact hB.1
      have bN : N ∈ B := by rcases sN.2.2 with h | h <;> rw [h]; exact hB.2.2.2; exact hB.2.1
      refine ⟨c4, by simp only; grind, by simp only; grind, ?_, fun z hz => ?_, .inr fun z hz => ?_, fun k q => ?_, lay_ends (lay_ends (lay_ends (lay_ends en hB.2.2.1 hB.1) ab hB.2.2.1) bM bN) hB.2.1 hB.2.2.2, bN⟩
      · simp only
        by_cases g : e.f1 ≤ x.f1
        · left; grind
        · right; exact d4 N (by grind) (by grind) (by grind) (fun _ => by grind)
      · have := hp z hz
        exact d4 z.f0 (by grind) (by grind) (by grind) (fun _ => by grind)
      · have := hp z hz; show N ≤ z.f0; grind
      · rw [lay_H c3 l4, lay_H c2 l3, lay_H c1 l2, lay_H c l1, h, H_append, H_one, sq]
        simp only
        generalize H pre k q = Hp
        by_cases gq1 : q ≤ x.f2 <;> by_cases gq2 : q ≤ e.f2 <;> simp only [gq1, gq2] <;> grind
theorem inv_fold {B : List ByteArray} {e : S27} (he : e.f0 < e.f1) (hB : e.f0 ∈ B ∧ e.f1 ∈ B) : ∀ (post pre : List S27) (s : List S27 × ByteArray), Inv B e pre post s → post.Pairwise (fun x y => x.f1 ≤ y.f0) → (∀ x ∈ post, x.f0 < x.f1) → Ends B post → Inv B e (pre ++ post) [] (post.foldl (addStep e) s)
  | [], pre, s, h, _, _, _ => by simpa using h
  | x :: post, pre, s, h, h1, h2, h3 => by
    have hx := h3 x (by simp)
    rw [List.pairwise_cons] at h1
    have := inv_fold he hB post (pre ++ [x]) (addStep e s x) (inv_step h he (h2 x (by simp)) h1.1 ⟨hB.1, hB.2, hx.1, hx.2⟩) h1.2 (fun y hy => h2 y (by simp [hy])) (fun y hy => h3 y (by simp [hy]))
    simpa using this
theorem addF_spec {B : List ByteArray} {xs : List S27} {e : S27} (hC : Cano xs) (he : e.f0 < e.f1) (hx : Ends B xs) (h0 : e.f0 ∈ B) (h1 : e.f1 ∈ B) :
    Cano (addF xs e) ∧ (∀ k q, H (addF xs e) k q ↔ H xs k q ∨ (e.f0 ≤ k ∧ k < e.f1 ∧ q ≤ e.f2)) ∧ Ends B (addF xs e) := by
  have hI : Inv B e [] xs ([], e.f0) := by
    refine ⟨Cano.nil, ?_, ?_, .inr (by simp), by simp, .inl rfl, fun k q => ?_, by intro y hy; simp at hy, h0⟩
    · simp only; grind
    · simp only; grind
    · simp only [H_nil]; grind
  have hJ := inv_fold he ⟨h0, h1⟩ xs [] _ hI hC.pln.ord hC.full hx
  rw [addF]
  generalize xs.foldl (addStep e) ([], e.f0) = s at hJ ⊢
  obtain ⟨c, a0, a1, oe, op, ap, h, en, ab⟩ := hJ
  have l1 : s.2 < e.f1 → ∀ y ∈ s.1, y.f1 ≤ s.2 := fun hlt => by rcases oe with h | h; exfalso; grind; exact h
  refine ⟨lay_cano c l1, fun k q => ?_, lay_ends en ab h1⟩
  rw [lay_H c l1, h]
  simp only [List.nil_append]
  generalize H xs k q = Hp
  by_cases gq : q ≤ e.f2 <;> simp only [gq] <;> grind
def ends (l : List S27) : List ByteArray := l.flatMap (fun x => [x.f0, x.f1])
theorem ends_of {l : List S27} : Ends (ends l) l := fun y hy => by
  simp only [ends, List.mem_flatMap]
  exact ⟨⟨y, hy, by simp⟩, ⟨y, hy, by simp⟩⟩
theorem ends_length (l : List S27) : (ends l).length = 2 * l.length := by
  induction l with
  | nil => rfl
  | cons x l ih => simp only [ends, List.flatMap_cons, List.length_append, List.length_cons, List.length_nil] at *; omega
theorem Ends.mono {B B' : List ByteArray} {xs : List S27} (h : Ends B xs) (hb : ∀ x ∈ B, x ∈ B') : Ends B' xs := fun y hy => ⟨hb _ (h y hy).1, hb _ (h y hy).2⟩
theorem fold_spec {B : List ByteArray} : ∀ (l xs : List S27), Cano xs → Ends B xs → Ends B l → (∀ x ∈ l, x.f0 < x.f1) →
    Cano (l.foldl addF xs) ∧ (∀ k q, H (l.foldl addF xs) k q ↔ H xs k q ∨ H l k q) ∧ Ends B (l.foldl addF xs)
  | [], xs, hC, hx, _, _ => ⟨hC, fun k q => by simp [H_nil], hx⟩
  | e :: l, xs, hC, hx, hl, hv => by
    obtain ⟨c, h, en⟩ := addF_spec hC (hv e (by simp)) hx (hl e (by simp)).1 (hl e (by simp)).2
    obtain ⟨c2, h2, en2⟩ := fold_spec l (addF xs e) c en (fun y hy => hl y (by simp [hy])) (fun y hy => hv y (by simp [hy]))
    refine ⟨c2, fun k q => ?_, en2⟩
    show H (l.foldl addF (addF xs e)) k q ↔ _
    rw [h2, h, show e :: l = [e] ++ l from rfl, H_append, H_one]
    generalize H xs k q = H1; generalize H l k q = H2
    grind
/-- What New makes: a plain set that elides just what its elisions do. -/
theorem all_spec {l : List S27} (hv : ∀ x ∈ l, x.f0 < x.f1) : Cano (addAll l) ∧ (∀ k q, H (addAll l) k q ↔ H l k q) ∧ Ends (ends l) (addAll l) := by
  obtain ⟨a, b, c⟩ := fold_spec (B := ends l) l [] Cano.nil (by intro y hy; simp at hy) ends_of hv
  exact ⟨a, fun k q => by rw [addAll, b, H_nil]; simp, c⟩
theorem len_le {B : List ByteArray} {ys : List ByteArray} (h : ys.Pairwise (· < ·)) (hm : ∀ y ∈ ys, y ∈ B) : ys.length ≤ B.length :=
  List.Nodup.length_le_of_subset (h.imp (fun hlt he => by subst he; grind)) hm
theorem cano_len {B : List ByteArray} {xs : List S27} (h : Cano xs) (hx : Ends B xs) : xs.length ≤ B.length := by
  have : (xs.map (·.f0)).length ≤ B.length := by
    refine len_le ?_ ?_
    · rw [List.pairwise_map]
      have h1 := h.ord
      rw [List.pairwise_iff_getElem] at h1 ⊢
      intro i j hi hj hij
      have := (h1 i j hi hj hij).1
      have := h.full xs[i] (List.getElem_mem hi)
      grind
    · intro y hy
      simp only [List.mem_map] at hy
      obtain ⟨x, hx1, rfl⟩ := hy
      exact (hx x hx1).1
  simpa using this
theorem all_len {l : List S27} (hv : ∀ x ∈ l, x.f0 < x.f1) : (addAll l).length ≤ 2 * l.length := by
  obtain ⟨a, b, c⟩ := all_spec hv
  have := cano_len a c
  rw [ends_length] at this
  exact this
/-- Two plain sets that elide the same are the same. -/
theorem cano_eq : ∀ {xs ys : List S27}, Cano xs → Cano ys → (∀ k q, H xs k q ↔ H ys k q) → xs = ys
  | [], [], _, _, _ => rfl
  | [], y :: ys, _, hy, h => by
    have := (h y.f0 y.f2).mpr ⟨y, by simp, by grind, hy.full y (by simp), Int.le_refl _⟩
    rw [H_nil] at this; exact this.elim
  | x :: xs, [], hx, _, h => by
    have := (h x.f0 x.f2).mp ⟨x, by simp, by grind, hx.full x (by simp), Int.le_refl _⟩
    rw [H_nil] at this; exact this.elim
  | x :: xs, y :: ys, hx, hy, h => by
    have px := List.pairwise_cons.mp hx.ord
    have py := List.pairwise_cons.mp hy.ord
    have fx := hx.full x (by simp)
    have fy := hy.full y (by simp)
    have gx : ∀ z ∈ xs, x.f1 ≤ z.f0 ∧ z.f0 < z.f1 ∧ (x.f1 = z.f0 → x.f2 ≠ z.f2) := fun z hz => ⟨(px.1 z hz).1, hx.full z (by simp [hz]), (px.1 z hz).2⟩
    have gy : ∀ z ∈ ys, y.f1 ≤ z.f0 ∧ z.f0 < z.f1 ∧ (y.f1 = z.f0 → y.f2 ≠ z.f2) := fun z hz => ⟨(py.1 z hz).1, hy.full z (by simp [hz]), (py.1 z hz).2⟩
    have ux : ∀ k q, H (x :: xs) k q ↔ (x.f0 ≤ k ∧ k < x.f1 ∧ q ≤ x.f2) ∨ H xs k q := fun k q => by rw [show x :: xs = [x] ++ xs from rfl, H_append, H_one]
    have uy : ∀ k q, H (y :: ys) k q ↔ (y.f0 ≤ k ∧ k < y.f1 ∧ q ≤ y.f2) ∨ H ys k q := fun k q => by rw [show y :: ys = [y] ++ ys from rfl, H_append, H_one]
    have nx : ∀ k q, k < x.f1 → ¬ H xs k q := fun k q hk ⟨z, hz, a, b, c⟩ => by have := gx z hz; grind
    have ny : ∀ k q, k < y.f1 → ¬ H ys k q := fun k q hk ⟨z, hz, a, b, c⟩ => by have := gy z hz; grind
    have e0 : x.f0 = y.f0 := by
      have h1 := (h x.f0 x.f2).mp ((ux _ _).mpr (.inl ⟨by grind, fx, Int.le_refl _⟩))
      have h2 := (h y.f0 y.f2).mpr ((uy _ _).mpr (.inl ⟨by grind, fy, Int.le_refl _⟩))
      rw [uy] at h1
      rw [ux] at h2
      have a1 : y.f0 ≤ x.f0 := by
        rcases h1 with h1 | ⟨z, hz, a, b, c⟩
        · exact h1.1
        · have := gy z hz; grind
      have a2 : x.f0 ≤ y.f0 := by
        rcases h2 with h2 | ⟨z, hz, a, b, c⟩
        · exact h2.1
        · have := gx z hz; grind
      grind
    have e2 : x.f2 = y.f2 := by
      have h1 := (h x.f0 x.f2).mp ((ux _ _).mpr (.inl ⟨by grind, fx, Int.le_refl _⟩))
      have h2 := (h y.f0 y.f2).mpr ((uy _ _).mpr (.inl ⟨by grind, fy, Int.le_refl _⟩))
      rw [uy] at h1
      rw [ux] at h2
      have := nx y.f0 y.f2 (by grind)
      have := ny x.f0 x.f2 (by grind)
      grind
    have e1 : x.f1 = y.f1 := by
      rcases Std.lt_trichotomy x.f1 y.f1 with hl | hl | hl
      · exfalso
        have h1 := (h x.f1 x.f2).mpr ((uy _ _).mpr (.inl ⟨by grind, hl, by omega⟩))
        have h3 : ¬ (H (x :: xs) x.f1 (x.f2 + 1)) := fun g => by
          have := (h _ _).mp g
          rw [uy] at this
          have := ny x.f1 (x.f2 + 1) hl
          grind
        rw [ux] at h1 h3
        rcases h1 with h1 | ⟨z, hz, a, b, c⟩
        · grind
        · have g := gx z hz
          have e : x.f1 = z.f0 := by grind
          have g2 := g.2.2 e
          exact h3 (.inr ⟨z, hz, a, b, by omega⟩)
      · exact hl
      · exfalso
        have h1 := (h y.f1 y.f2).mp ((ux _ _).mpr (.inl ⟨by grind, hl, by omega⟩))
        have h3 : ¬ (H (y :: ys) y.f1 (y.f2 + 1)) := fun g => by
          have := (h _ _).mpr g
          rw [ux] at this
          have := nx y.f1 (y.f2 + 1) hl
          grind
        rw [uy] at h1 h3
        rcases h1 with h1 | ⟨z, hz, a, b, c⟩
        · grind
        · have g := gy z hz
          have e : y.f1 = z.f0 := by grind
          have g2 := g.2.2 e
          exact h3 (.inr ⟨z, hz, a, b, by omega⟩)
    have exy : x = y := by cases x; cases y; simp_all
    subst exy
    congr 1
    refine cano_eq ⟨px.2, fun z hz => hx.full z (by simp [hz])⟩ ⟨py.2, fun z hz => hy.full z (by simp [hz])⟩ (fun k q => ?_)
    have h1 := h k q
    rw [ux, uy] at h1
    by_cases hk : k < x.f1
    · exact ⟨fun g => absurd g (nx k q hk), fun g => absurd g (ny k q hk)⟩
    · grind
end Go.Proofs.Ytpfkfnphjbgohaa.El
