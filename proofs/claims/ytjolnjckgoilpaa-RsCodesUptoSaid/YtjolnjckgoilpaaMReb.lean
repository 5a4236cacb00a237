/- Several texts of this session laid together: RsClo, RsOut, RsRp. -/
import Derived.Test.YtjolnjckgoilpaaMHd
import Derived.Test.YtjolnjckgoilpaaMInv
import Derived.Test.YtjolnjckgoilpaaMPar
section
/-
  slices.Clone of bytes; gf's Unit, Inverse, Times as Rebuild calls them.
-/
set_option linter.unusedVariables false
set_option linter.unusedSimpArgs false
namespace Go.Proofs.Ytjolnjckgoilpaa.Rs
open Go.RowKit Go.Proofs.YtjolnjckgoilpaaW.PrintWords Go.Proofs.YtjolnjckgoilpaaW.PrintLast Go.Proofs.YtjolnjckgoilpaaW.PrintMore Go.Proofs.Ytjolnjckgoilpaa.PRa Go.Proofs.Ytjolnjckgoilpaa.Gf
def BytesQ (w : World) (xs : List Int) (r : Ending) (w' : World) : Prop := ∃ v', r = .returned v' ∧ Kd.R (Kd.int .u8) 5 w' w.heap.size (fun _ => True) v' xs ∧ Below w.heap.size w w'
set_option maxHeartbeats 4000000 in
theorem clone28 (w : World) (A : Option Addr) (c : Nat) (xs : List Int) (hC : Kd.C (Kd.int .u8) w A xs.length xs) (hc : xs.length ≤ c) (hl : xs.length ≤ 1000000000) :
    Calls Try.prog 28 #[.slice A xs.length c] w (BytesQ w xs) := by
  rcases A with _ | ad
  · have hx : xs = [] := by
      rcases xs with _ | ⟨x, xs⟩
      · rfl
      · obtain ⟨ad, e, _⟩ := hC.2.2 (by simp)
        cases e
    subst hx
    have heq : ∀ W : World, (binOp .eql 25 (.slice none 0 c) (.slice none 0 0)).run Try.prog W = .ok (.bool true) W := fun W => by kernel_rfl
    clear hC hc hl
    go_enter Try.func28, Try.ntmps28
    go_wp2_with fail
    go_ret
    exact ⟨_, rfl, Kd.R_nil _ _ _ _ _, Below.refl _ _⟩
  · obtain ⟨n, hn⟩ : ∃ n, xs.length = n := ⟨_, rfl⟩
    rw [hn] at hC hc hl ⊢
    have heq : ∀ W : World, (binOp .eql 25 (.slice (some ad) n c) (.slice none 0 0)).run Try.prog W = .ok (.bool false) W := fun W => by kernel_rfl
    have HC := Aside0.mk hC
    have HN := Aside0.mk hn
    clear hC hn hc
    go_enter Try.func28, Try.ntmps28
    go_wp2_with (first
      | ((with_reducible refine gate_dst (N := 5) rfl ?_); refine Kd.R_lit (Kd.int .u8) _ 5 ?hg (N := 5) ?hd (xs := ([] : List Int)) (inner := []) (ok := fun _ => True) (okp := fun _ => True) ?hr ?hp (fun _ hk => hk) trivial (Below.refl _ _) (Nat.le_refl _) (by simp) ?_; (case hd => rfl); (case hg => rfl); (case hr => first | (go_simp; done) | (go_simp; rfl)); (case hp => exact (Reps.none _ _)); intro v1 w1 ho hb hg_ hnew_; clear hg_ hnew_; have HO := Aside0.mk ho; have HB := Aside0.mk hb; clear ho hb)
      | ((with_reducible refine gate_builtin (b := .append) (xs := #[.tmp 5, .tmp 6]) rfl ?_); refine Kd.R_append_rows (Kd.int .u8) (Rr := (Kd.int .u8).K _) w.heap.size rfl (.tmp 5) (.tmp 6) 25 5 _ 1 rfl Try.underlying25 Go.Proofs.Ytjolnjckgoilpaa.PRa.info5 rfl (by decide) (by decide) _ [] xs (some ad) n c (fun _ => True) (fun _ => False) rfl rfl HO.out (Kd.C_below HC.out HB.out) (fun x cs h => h) (fun _ h => h.elim) (fun _ _ => trivial) HB.out HB.out.size (by simp; omega) ?_; intro v2 w2 hR2 hB2 hg2 hat; clear hat hg2; have HR := Aside0.mk hR2; have HB2 := Aside0.mk hB2; clear hR2 hB2))
    go_ret
    exact ⟨_, rfl, HR.out, HB2.out⟩
/-- What it tells; none where an element is no byte. -/
def timesF (l o : List (List Int)) : Option (List (List Int) × Int) :=
  if okB l = true ∧ okB o = true then
    (if rightB l = true ∧ rightB o = true ∧ (row l 0).length = o.length then some (matrix l.length (row o 0).length (fun i j => ((prod l o i j : Nat) : Int)), 0) else some ([], 1))
  else none
theorem times_calls (A0 : Option Addr) (c0 : Nat) (l0 : List (List Int)) (A1 : Option Addr) (c1 : Nat) (l1 : List (List Int)) (r1 : List (List Int)) (r2 : Int) (w : World) (hr0 : Kd.C (Kd.slice 5 (Kd.int .u8)) w A0 l0.length l0) (hr1 : Kd.C (Kd.slice 5 (Kd.int .u8)) w A1 l1.length l1) (h : timesF l0 l1 = some (r1, r2)) :
    Calls Try.prog 31 #[.slice A0 l0.length c0, .slice A1 l1.length c1] w fun e w' => ∃ v0_ : Value, e = .returned (.tuple #[v0_, .int .i64 r2]) ∧ Kd.S (Kd.slice 5 (Kd.int .u8)) 25 w' w.heap.size (fun _ => True) v0_ r1 ∧ Below w.heap.size w w' := by
  unfold timesF at h
  by_cases ok : okB l0 = true ∧ okB l1 = true
  · rw [if_pos ok] at h
    by_cases hm : rightB l0 = true ∧ rightB l1 = true ∧ (row l0 0).length = l1.length
    · rw [if_pos hm] at h
      simp only [Option.some.injEq, Prod.mk.injEq] at h
      obtain ⟨rfl, rfl⟩ := h
      exact times31_ok w l0 l1 A0 A1 c0 c1 hr0 hr1 ok.1 ok.2 hm.1 hm.2.1 hm.2.2
    · rw [if_neg hm] at h
      simp only [Option.some.injEq, Prod.mk.injEq] at h
      obtain ⟨rfl, rfl⟩ := h
      have key : Calls Try.prog 31 #[.slice A0 l0.length c0, .slice A1 l1.length c1] w fun e w' => e = .returned (.tuple #[.slice none 0 0, .int .i64 1]) ∧ Below w.heap.size w w' := by
        by_cases e : rightB l0 = true
        · by_cases e2 : rightB l1 = true
          · exact times31_yes w l0 l1 A0 A1 c0 c1 hr0 hr1 e e2 (fun h => hm ⟨e, e2, h⟩)
          · exact times31_no2 w l0 l1 A0 A1 c0 c1 hr0 hr1 e (by simpa using e2)
        · exact times31_no1 w l0 l1 A0 A1 c0 c1 hr0 (by simpa using e)
      refine key.mono ?_
      rintro e w' ⟨rfl, hb⟩
      exact ⟨_, rfl, Kd.S_nil _ _ _ _ _, hb⟩
  · rw [if_neg ok] at h; cases h
end Go.Proofs.Ytjolnjckgoilpaa.Rs
end

section
/-
  Rebuild's rows: some of a slice's rows lie in blocks of their own; the results' variables beside what grows.
-/
set_option linter.unusedVariables false
set_option linter.unusedSimpArgs false
namespace Go.Proofs.Ytjolnjckgoilpaa.Rs
open Go.RowKit Go.Proofs.YtjolnjckgoilpaaW.PrintWords Go.Proofs.YtjolnjckgoilpaaW.PrintLast Go.Proofs.YtjolnjckgoilpaaW.PrintMore Go.Proofs.Ytjolnjckgoilpaa.PRa Go.Proofs.Ytjolnjckgoilpaa.Gf
theorem Two.grown {w W W1 : World} {v0 v1 : Value} {row : Option Nat} (h : Two w W v0 v1) (hb : Below w.heap.size w W1) (hg : W.grownBy W1 row) (h0 : some w.heap.size ≠ row) (h1 : some (w.heap.size + 1) ≠ row) : Two w W1 v0 v1 :=
  ⟨hb, (hg.block _ (heap_lt h.at0) h0).trans h.at0, (hg.block _ (heap_lt h.at1) h1).trans h.at1⟩
theorem Two.over {w W W1 : World} {v0 v1 v : Value} {base : Nat} {ok : Nat → Prop} {hs : List Hd} (h : Two w W v0 v1) (hv : KH.R 25 W base ok v hs) (hb : Below w.heap.size w W1) (hg : W.grownBy W1 v.ownBlock) : Two w W1 v0 v1 :=
  h.grown hb hg (Kd.R_ne hv h.at0 (by decide)) (Kd.R_ne hv h.at1 (by decide))
/-- The rows of P lie in blocks of their own, one length. -/
structure Outs (W : World) (base n m : Nat) (P : Nat → Prop) (hs : List Hd) (L : Nat → List Int) : Prop where
  len : hs.length = n
  rows : ∀ i, i < n → P i → ∃ b c, hs[i]? = some (some ⟨b, 0, none⟩, m, c) ∧ m ≤ c ∧ (L i).length = m ∧ KB.R 5 W base (fun _ => True) (.slice (some ⟨b, 0, none⟩) m c) (L i)
  inj : ∀ i j x y, i < n → j < n → P i → P j → hs[i]? = some x → hs[j]? = some y → x.1 = y.1 → i = j
theorem Outs.nil (W : World) (base m : Nat) (P : Nat → Prop) (L : Nat → List Int) : Outs W base 0 m P [] L := ⟨rfl, fun i hi => absurd hi (Nat.not_lt_zero _), fun i j x y hi => absurd hi (Nat.not_lt_zero _)⟩
theorem Outs.move {W W1 : World} {base n m : Nat} {P : Nat → Prop} {hs : List Hd} {L : Nat → List Int} (h : Outs W base n m P hs L) (hm : ∀ v xs, KB.R 5 W base (fun _ => True) v xs → KB.R 5 W1 base (fun _ => True) v xs) : Outs W1 base n m P hs L :=
  ⟨h.len, fun i hi hp => by obtain ⟨b, c, h1, h2, h3, h4⟩ := h.rows i hi hp; exact ⟨b, c, h1, h2, h3, hm _ _ h4⟩, h.inj⟩
theorem Outs.below {W W1 : World} {base n m : Nat} {P : Nat → Prop} {hs : List Hd} {L : Nat → List Int} (h : Outs W base n m P hs L) (hb : Below W.heap.size W W1) : Outs W1 base n m P hs L := h.move fun _ _ h => Kd.R_below h hb
theorem Outs.over {W W1 : World} {base n m base' : Nat} {P : Nat → Prop} {hs hs' : List Hd} {L : Nat → List Int} {v : Value} {ok : Nat → Prop} (h : Outs W base n m P hs L) (hv : KH.R 25 W base' ok v hs') (hg : W.grownBy W1 v.ownBlock) : Outs W1 base n m P hs L := h.move fun _ _ h => Kd.R_over h hv (by simp [KB, Kd.int, Kd.scalar]) hg
theorem Outs.set {W : World} {base n m g t : Nat} {P : Nat → Prop} {hs : List Hd} {L : Nat → List Int} {cells : Array Value} (h : Outs W base n m P hs L) (hb : W.heap[g]? = some (.cells cells t (0, 0))) (ht : t ≠ 5) (j : Nat) (u : Value) : Outs (W.setCell ⟨g, j, none⟩ u) base n m P hs L := h.move fun _ _ h => Kd.R_set h hb (by simp [KB, Kd.int, Kd.scalar, ht.symm]) j u
/-- A row that is one of them, appended. -/
theorem Outs.snoc {W : World} {base n m b c : Nat} {P : Nat → Prop} {hs : List Hd} {L : Nat → List Int} (h : Outs W base n m P hs L) (hc : m ≤ c) (hl : (L n).length = m) (hR : KB.R 5 W base (fun _ => True) (.slice (some ⟨b, 0, none⟩) m c) (L n)) (hnew : ∀ i x, i < n → P i → hs[i]? = some x → x.1 ≠ some ⟨b, 0, none⟩) :
    Outs W base (n + 1) m P (hs ++ [(some ⟨b, 0, none⟩, m, c)]) L := by
  have hlast : (hs ++ [((some ⟨b, 0, none⟩, m, c) : Hd)])[n]? = some (some ⟨b, 0, none⟩, m, c) := by rw [List.getElem?_append_right (by rw [h.len]; exact Nat.le_refl _), h.len]; simp
  have hold : ∀ i, i < n → (hs ++ [((some ⟨b, 0, none⟩, m, c) : Hd)])[i]? = hs[i]? := fun i hi => List.getElem?_append_left (by rw [h.len]; exact hi)
  refine ⟨by simp [h.len], fun i hi hp => ?_, fun i j x y hi hj hpi hpj hx hy e => ?_⟩
  · rcases Nat.lt_or_ge i n with h1 | h1
    · rw [hold i h1]; exact h.rows i h1 hp
    · obtain rfl : i = n := by omega
      exact ⟨b, c, hlast, hc, hl, hR⟩
  · rcases Nat.lt_or_ge i n with h1 | h1 <;> rcases Nat.lt_or_ge j n with h2 | h2
    · rw [hold i h1] at hx; rw [hold j h2] at hy; exact h.inj i j x y h1 h2 hpi hpj hx hy e
    · obtain rfl : j = n := by omega
      rw [hold i h1] at hx; rw [hlast] at hy
      obtain rfl := Option.some.inj hy
      exact absurd e (hnew i x h1 hpi hx)
    · obtain rfl : i = n := by omega
      rw [hold j h2] at hy; rw [hlast] at hx
      obtain rfl := Option.some.inj hx
      exact absurd e.symm (hnew j y h2 hpj hy)
    · omega
/-- A row that is none of them, appended. -/
theorem Outs.skip {W : World} {base n m : Nat} {P : Nat → Prop} {hs : List Hd} {L : Nat → List Int} (h : Outs W base n m P hs L) (x : Hd) (hp : ¬ P n) : Outs W base (n + 1) m P (hs ++ [x]) L := by
  have hold : ∀ i, i < n → (hs ++ [x])[i]? = hs[i]? := fun i hi => List.getElem?_append_left (by rw [h.len]; exact hi)
  refine ⟨by simp [h.len], fun i hi hpi => ?_, fun i j y z hi hj hpi hpj hy hz e => ?_⟩
  · have h1 : i < n := by
      rcases Nat.lt_or_ge i n with h1 | h1
      · exact h1
      · obtain rfl : i = n := by omega
        exact absurd hpi hp
    rw [hold i h1]; exact h.rows i h1 hpi
  · have h1 : i < n := by
      rcases Nat.lt_or_ge i n with h1 | h1
      · exact h1
      · obtain rfl : i = n := by omega
        exact absurd hpi hp
    have h2 : j < n := by
      rcases Nat.lt_or_ge j n with h2 | h2
      · exact h2
      · obtain rfl : j = n := by omega
        exact absurd hpj hp
    rw [hold i h1] at hy; rw [hold j h2] at hz
    exact h.inj i j y z h1 h2 hpi hpj hy hz e
/-- A missing row is laid. -/
theorem Outs.put {W : World} {base n m q b c : Nat} {P : Nat → Prop} {hs : List Hd} {L : Nat → List Int} (h : Outs W base n m P hs L) (hq : q < n) (hc : m ≤ c) (hl : (L q).length = m) (hR : KB.R 5 W base (fun _ => True) (.slice (some ⟨b, 0, none⟩) m c) (L q)) (hnew : ∀ i x, i < n → P i → hs[i]? = some x → x.1 ≠ some ⟨b, 0, none⟩) :
    Outs W base n m (fun i => P i ∨ i = q) (hs.set q (some ⟨b, 0, none⟩, m, c)) L := by
  have hat : (hs.set q ((some ⟨b, 0, none⟩, m, c) : Hd))[q]? = some (some ⟨b, 0, none⟩, m, c) := by rw [List.getElem?_set_self (by rw [h.len]; exact hq)]
  have hold : ∀ i, i ≠ q → (hs.set q ((some ⟨b, 0, none⟩, m, c) : Hd))[i]? = hs[i]? := fun i hi => List.getElem?_set_ne (fun e => hi e.symm)
  refine ⟨by simp [h.len], fun i hi hp => ?_, fun i j x y hi hj hpi hpj hx hy e => ?_⟩
  · by_cases e : i = q
    · subst e; exact ⟨b, c, hat, hc, hl, hR⟩
    · rw [hold i e]; exact h.rows i hi (hp.resolve_right e)
  · by_cases e1 : i = q <;> by_cases e2 : j = q
    · omega
    · subst e1
      rw [hat] at hx; rw [hold j e2] at hy
      obtain rfl := Option.some.inj hx
      exact absurd e.symm (hnew j y hj (hpj.resolve_right e2) hy)
    · subst e2
      rw [hat] at hy; rw [hold i e1] at hx
      obtain rfl := Option.some.inj hy
      exact absurd e (hnew i x hi (hpi.resolve_right e1) hx)
    · rw [hold i e1] at hx; rw [hold j e2] at hy
      exact h.inj i j x y hi hj (hpi.resolve_right e1) (hpj.resolve_right e2) hx hy e
/-- The headers of rows that the call owns. -/
theorem KH_of_R {W : World} {base : Nat} {v : Value} {l : List (List Int)} (h : KR.R 25 W base (fun _ => True) v l) : ∃ hs : List Hd, KH.R 25 W base (fun _ => True) v hs ∧ hs.length = l.length ∧ ∀ (i : Nat) (x : Hd), hs[i]? = some x → x.2.1 = (row l i).length ∧ x.2.1 ≤ x.2.2 ∧ KB.R 5 W base (fun _ => True) (.slice x.1 x.2.1 x.2.2) (row l i) := by
  obtain ⟨h0, inner, ho, hr⟩ := h
  have hlen : inner.length = l.length := by have := hr.1; rwa [show KR.sz = 1 from rfl, Nat.mul_one] at this
  have hx : ∀ i, ∃ x : Hd, i < l.length → inner[i]? = some (.slice x.1 x.2.1 x.2.2) ∧ x.2.1 = (row l i).length ∧ x.2.1 ≤ x.2.2 ∧ KB.R 5 W base (fun _ => True) (.slice x.1 x.2.1 x.2.2) (row l i) := fun i => by
    by_cases hi : i < l.length
    · obtain ⟨u, hu, hR⟩ := hr.2 i _ (List.getElem?_eq_getElem hi)
      have hii : i < inner.length := by omega
      have hin : inner[i]? = some u := by
        rw [show KR.sz = 1 from rfl, Nat.mul_one, List.drop_eq_getElem_cons hii] at hu
        rw [List.getElem?_eq_getElem hii]
        have h2 : inner[i] :: List.take 0 (List.drop (i + 1) inner) = [u] := hu
        exact congrArg some (List.cons.inj h2).1
      obtain ⟨A, c, rfl, hle, _⟩ := Kd.R_reads hR
      have er : row l i = l[i] := by simp [row, List.getD, hi]
      refine ⟨(A, l[i].length, c), fun _ => ⟨hin, by rw [er], hle, ?_⟩⟩
      rw [er]
      exact Kd.R_mono hR (fun _ _ => trivial)
    · exact ⟨(none, 0, 0), fun h => absurd h hi⟩
  refine ⟨(List.range l.length).map fun i => (hx i).choose, ⟨h0, inner, ?_, ?_⟩, by simp, fun i x hi => ?_⟩
  · rw [List.length_map, List.length_range]
    exact ho
  · refine ⟨by rw [show KH.sz = 1 from rfl]; simp [hlen], fun j p hj => ?_⟩
    have hjl : j < l.length := by
      have := (List.getElem?_eq_some_iff.1 hj).1
      simpa using this
    have hp : (hx j).choose = p := by simpa [hjl] using hj
    have hji : j < inner.length := by omega
    have h1 := ((hx j).choose_spec hjl).1
    rw [hp, List.getElem?_eq_getElem hji] at h1
    rw [show KH.sz = 1 from rfl, Nat.mul_one, List.drop_eq_getElem_cons hji]
    show List.take 1 (inner[j] :: _) = [Value.slice p.1 p.2.1 p.2.2]
    rw [Option.some.inj h1]
    rfl
  · have hil : i < l.length := by
      have := (List.getElem?_eq_some_iff.1 hi).1
      simpa using this
    have hp : (hx i).choose = x := by simpa [hil] using hi
    have := (hx i).choose_spec hil
    rw [hp] at this
    exact this.2
end Go.Proofs.Ytjolnjckgoilpaa.Rs
end

section
/-
  Rebuild: what holds while it makes rows; which rows are used.
-/
set_option linter.unusedVariables false
set_option linter.unusedSimpArgs false
namespace Go.Proofs.Ytjolnjckgoilpaa.Rs
open Go.RowKit Go.Proofs.YtjolnjckgoilpaaW.PrintWords Go.Proofs.YtjolnjckgoilpaaW.PrintLast Go.Proofs.YtjolnjckgoilpaaW.PrintMore Go.Proofs.Ytjolnjckgoilpaa.PRa Go.Proofs.Ytjolnjckgoilpaa.Gf
theorem wp_normal {Q : Exit → Act → World → Prop} {cd : Code} {a : Act} {w : World} (h : Code.wp Try.prog cd (Exit.then (fun a w => Q .normal a w) fun _ _ _ => False) a w) : Code.wp Try.prog cd Q a w :=
  Code.wp_mono (fun e a w h => by cases e <;> first | exact h | exact h.elim) h
theorem KH_atA {W : World} {ad : Addr} {n i : Nat} {hs : List Hd} {x : Hd} (h : KH.C W (some ad) n hs) (hi : i < n) (hx : hs[i]? = some x) : W.cell? (ad.add i) = some (.slice x.1 x.2.1 x.2.2) := by
  obtain ⟨ad', c, e, _, hK, hc⟩ := Kd.C_get h x (i : Int) (by omega) (by omega)
  obtain rfl : ad = ad' := by injection e
  rw [Int.toNat_natCast, List.getD_eq_getElem?_getD, hx] at hK
  have hK2 : c = [Value.slice x.1 x.2.1 x.2.2] := hK
  have := hc 0 (Value.slice x.1 x.2.1 x.2.2) (by rw [hK2]; rfl)
  rwa [Int.toNat_natCast, show i * KH.sz + 0 = i by simp [KH, Kd.scalar]] at this
def pres (l : List (List Int)) (i : Nat) : Prop := (row l i).length ≠ 0
theorem out_step {W W2 : World} {base j m : Nat} {l : List (List Int)} {hs : List Hd} {A : Option Addr} {c lj : Nat} (hlj : (row l j).length = lj) (h : Outs W base j m (pres l) hs (row l)) (hb : Below W.heap.size W W2) (hv : KB.R 5 W2 W.heap.size (fun _ => True) (.slice A lj c) (row l j)) (hbase : base ≤ W.heap.size) (hm : pres l j → (row l j).length = m) (hm0 : 0 < m) :
    Outs W2 base (j + 1) m (pres l) (hs ++ [(A, lj, c)]) (row l) := by
  subst hlj
  by_cases hp : pres l j
  · have e := hm hp
    obtain ⟨b, cap, hf, hge, _⟩ := Kd.R_form hv (by omega)
    injection hf with hA hn hc
    subst hA
    subst hc
    have hle := (Kd.R_reads' (n := (row l j).length) hv).2.1
    rw [e] at hle hv ⊢
    refine Outs.snoc (h.below hb) hle e (Kd.R_lower hv hbase) (fun i x hi hpi hx hxe => ?_)
    obtain ⟨b', c', h1, _, _, h4⟩ := h.rows i hi hpi
    rw [h1] at hx
    obtain rfl := Option.some.inj hx
    have hlt := Kd.R_lt h4 b' (by simp [Value.ownBlock])
    injection hxe with hxe
    injection hxe with hxe
    omega
  · exact Outs.skip (h.below hb) _ hp
instance (l : List (List Int)) (i : Nat) : Decidable (pres l i) := inferInstanceAs (Decidable (¬ _))
/-- The first k shards, ahead of j, that are there. -/
def selN (l : List (List Int)) (j k : Nat) : List Nat := ((List.range j).filter fun i => decide (pres l i)).take k
theorem selN_zero (l : List (List Int)) (k : Nat) : selN l 0 k = [] := by simp [selN]
theorem selN_yes {l : List (List Int)} {j k : Nat} (h : pres l j) (hk : (selN l j k).length < k) : selN l (j + 1) k = selN l j k ++ [j] := by
  unfold selN at hk ⊢
  rw [List.length_take] at hk
  rw [List.range_succ, List.filter_append, show (List.filter (fun i => decide (pres l i)) [j]) = [j] by simp [h], List.take_append, List.take_of_length_le (show (List.filter (fun i => decide (pres l i)) (List.range j)).length ≤ k by omega)]
  rw [List.take_of_length_le (show [j].length ≤ k - (List.filter (fun i => decide (pres l i)) (List.range j)).length by simp; omega)]
theorem selN_full {l : List (List Int)} {j k : Nat} (hk : ¬ (selN l j k).length < k) : selN l (j + 1) k = selN l j k := by
  unfold selN at hk ⊢
  rw [List.length_take] at hk
  rw [List.range_succ, List.filter_append, List.take_append_of_le_length (by omega)]
theorem selN_no {l : List (List Int)} {j k : Nat} (h : ¬ pres l j) : selN l (j + 1) k = selN l j k := by
  unfold selN
  rw [List.range_succ, List.filter_append, show (List.filter (fun i => decide (pres l i)) [j]) = [] by simp [h], List.append_nil]
theorem selN_le (l : List (List Int)) (j k : Nat) : (selN l j k).length ≤ k := by unfold selN; rw [List.length_take]; omega
theorem miss_sel (l : List (List Int)) (n : Nat) : ((List.range n).filter fun i => decide (pres l i)).length + (missFrom l 0 n).length = n := by
  unfold missFrom
  rw [List.length_map, ← List.range_eq_range', ← List.countP_eq_length_filter, ← List.countP_eq_length_filter]
  have h := List.length_eq_countP_add_countP (l := List.range n) (fun i => decide (pres l i))
  rw [List.length_range] at h
  have e : List.countP (fun i => decide ((row l i).length = 0)) (List.range n) = List.countP (fun a => !decide (pres l a)) (List.range n) := by
    congr 1
    funext i
    unfold pres
    simp
  rw [e]
  have e2 : List.countP (fun a => decide ¬ decide (pres l a) = true) (List.range n) = List.countP (fun a => !decide (pres l a)) (List.range n) := by
    congr 1
    funext i
    simp
  omega
theorem selN_len {l : List (List Int)} {n k : Nat} (hl : l.length = n) (hn : n = k + 2) (hm : (missL l).length ≤ 2) : (selN l n k).length = k := by
  have := miss_sel l n
  unfold missL at hm
  rw [hl] at hm
  unfold selN
  rw [List.length_take]
  omega
theorem all_there {l : List (List Int)} {n : Nat} (hl : l.length = n) (h : (missL l).length = 0) : ∀ i, i < n → pres l i := fun i hi => by
  intro e
  have h0 := List.eq_nil_of_length_eq_zero h
  unfold missL missFrom at h0
  rw [List.map_eq_nil_iff, List.filter_eq_nil_iff] at h0
  have := h0 i (by rw [hl, ← List.range_eq_range']; simpa using hi)
  exact this (by simpa using e)
theorem selN_lt {l : List (List Int)} {n k x : Nat} (h : x ∈ selN l n k) : x < n ∧ pres l x := by
  have := List.mem_of_mem_take h
  rw [List.mem_filter] at this
  exact ⟨by simpa using this.1, by simpa using this.2⟩
theorem int_at {W : World} {A : Option Addr} {n i : Nat} {xs : List Int} {v : Int} (h : (Kd.int .i64).C W A n xs) (hi : i < n) (hx : xs[i]? = some v) : ∃ ad, A = some ad ∧ W.cell? (ad.add i) = some (.int .i64 v) := by
  obtain ⟨ad, c, e, _, hK, hc⟩ := Kd.C_get h v (i : Int) (by omega) (by omega)
  rw [Int.toNat_natCast, List.getD_eq_getElem?_getD, hx] at hK
  have hK2 : c = [Value.int .i64 v] := hK
  refine ⟨ad, e, ?_⟩
  have := hc 0 (Value.int .i64 v) (by rw [hK2]; rfl)
  rwa [Int.toNat_natCast, show i * (Kd.int .i64).sz + 0 = i by simp [Kd.int, Kd.scalar]] at this
theorem make_part (n : Nat) (hn : n ≤ 1000000) (w : World) :
    (Instr.makeSlice 46 (.int .i64 0) (.int .i64 (n : Int))).run Try.prog w = .ok (.slice (some ⟨w.heap.size, 0, none⟩) 0 n) (w.alloc (.cells (topCells n 0 0 id) 25)) := by
  obtain ⟨i, hi, h⟩ := Option.map_eq_some_iff.1 Go.Proofs.Ytjolnjckgoilpaa.PRa.info25
  simp only [Prod.mk.injEq] at h
  obtain ⟨h0, h1, h2⟩ := h
  have := run_make_rowN (P := Try.prog) 46 25 i (.slice none 0 0) Try.underlying46 hi h0 .i64 .i64 0 n (Nat.zero_le _) (by rw [h2]; omega) (by omega) w
  rw [h1, Nat.mul_one] at this
  have e : (Value.int .i64 ((0 : Nat) : Int)) = .int .i64 0 := rfl
  rw [e] at this
  rw [this]
  show Result.ok _ (w.alloc (.cells (madeCells #[_] n) 25)) = _
  rw [madeCells_one]
  simp [topCells]
theorem part_own {w : World} {n base : Nat} (hn : n ≤ 1000000) (hb : base ≤ w.heap.size) : KH.R 25 (w.alloc (.cells (topCells n 0 0 id) 25)) base (fun _ => True) (.slice (some ⟨w.heap.size, 0, none⟩) 0 n) [] := by
  refine Kd.R_of_own ⟨?_, .inr ⟨w.heap.size, n, topCells n 0 0 id, ?_, hb, heap_alloc_last _ _, ?_, ?_, ?_, ?_⟩⟩ ?_
  · simp [encs]
  · simp
  · simp
  · unfold maxLen; omega
  · simp [topCells]
  · simp [encs]
  · intro k _; trivial
/-- The rows of the unit matrix, then both of parity. -/
def allR (k : Nat) : List (List Int) := matrix k k kron ++ pairsL k
/-- The rows of unit and parity that the shards have which are there. -/
def partL (l : List (List Int)) (n k : Nat) : List (List Int) := (selN l n k).map fun x => row (allR k) x
theorem allR_len (k : Nat) : (allR k).length = k + 2 := by simp [allR, matrix, pairsL]
theorem sel_all {l : List (List Int)} {n k x : Nat} (hn : n = k + 2) (h : x ∈ selN l n k) : x < (allR k).length := by
  have := (selN_lt h).1
  rw [allR_len]
  omega
structure AllAt (w W : World) (k : Nat) (hs : List Hd) : Prop where
  len : hs.length = k + 2
  rows : ∀ (i : Nat) (x : Hd), hs[i]? = some x → x.2.1 = (row (allR k) i).length ∧ x.2.1 ≤ x.2.2 ∧ (KB.R 5 W w.heap.size (fun _ => True) (.slice x.1 x.2.1 x.2.2) (row (allR k) i) ∨ KB.C w x.1 x.2.1 (row (allR k) i))
theorem AllAt.move {w W W1 : World} {k : Nat} {hs : List Hd} (h : AllAt w W k hs) (hm : ∀ v xs, KB.R 5 W w.heap.size (fun _ => True) v xs → KB.R 5 W1 w.heap.size (fun _ => True) v xs) : AllAt w W1 k hs :=
  ⟨h.len, fun i x hx => by obtain ⟨h1, h2, h3⟩ := h.rows i x hx; exact ⟨h1, h2, h3.imp (hm _ _) id⟩⟩
theorem AllAt.below {w W W1 : World} {k : Nat} {hs : List Hd} (h : AllAt w W k hs) (hb : Below W.heap.size W W1) : AllAt w W1 k hs := h.move fun _ _ h => Kd.R_below h hb
theorem AllAt.set {w W : World} {k g t : Nat} {hs : List Hd} {cells : Array Value} (h : AllAt w W k hs) (hb : W.heap[g]? = some (.cells cells t (0, 0))) (ht : t ≠ 5) (j : Nat) (u : Value) : AllAt w (W.setCell ⟨g, j, none⟩ u) k hs := h.move fun _ _ h => Kd.R_set h hb (by simp [KB, Kd.int, Kd.scalar, ht.symm]) j u
theorem AllAt.toRows {w W : World} {k : Nat} {hs : List Hd} (h : AllAt w W k hs) (hb : Below w.heap.size w W) : Rows W hs (allR k) := by
  refine ⟨by rw [h.len]; simp [allR, matrix, pairsL], fun i x hx => ?_⟩
  obtain ⟨h1, h2, h3⟩ := h.rows i x hx
  refine ⟨h1, h2, ?_⟩
  rcases h3 with h3 | h3
  · have := (Kd.R_reads' h3).2.2
    rwa [← h1] at this
  · exact Kd.C_below h3 hb
theorem all_at {w W6 W7 : World} {k N : Nat} {hsU hsP : List Hd} {v : Value} (hlU : hsU.length = k) (hlP : hsP.length = 2)
    (hU : ∀ (i : Nat) (x : Hd), hsU[i]? = some x → x.2.1 = (row (matrix k k kron) i).length ∧ x.2.1 ≤ x.2.2 ∧ KB.R 5 W6 N (fun _ => True) (.slice x.1 x.2.1 x.2.2) (row (matrix k k kron) i))
    (hP : Rows w hsP (pairsL k)) (hv : KH.R 25 W6 N (fun _ => True) v hsU) (hg : W6.grownBy W7 v.ownBlock) (hN : w.heap.size ≤ N) : AllAt w W7 k (hsU ++ hsP) := by
  have hml : (matrix k k kron).length = k := by simp [matrix]
  refine ⟨by simp [hlU, hlP], fun i x hx => ?_⟩
  rcases Nat.lt_or_ge i k with h | h
  · rw [List.getElem?_append_left (by omega)] at hx
    have e : row (allR k) i = row (matrix k k kron) i := by
      unfold row allR
      rw [List.getD_eq_getElem?_getD, List.getElem?_append_left (by omega), List.getD_eq_getElem?_getD]
    rw [e]
    obtain ⟨h1, h2, h3⟩ := hU i x hx
    exact ⟨h1, h2, .inl (Kd.R_lower (Kd.R_over h3 hv (by simp [KB, Kd.int, Kd.scalar]) hg) hN)⟩
  · rw [List.getElem?_append_right (by omega), hlU] at hx
    have e : row (allR k) i = row (pairsL k) (i - k) := by
      unfold row allR
      rw [List.getD_eq_getElem?_getD, List.getElem?_append_right (by omega), hml, List.getD_eq_getElem?_getD]
    rw [e]
    obtain ⟨h1, h2, h3⟩ := hP.2 _ x hx
    exact ⟨h1, h2, .inr h3⟩
/-- The shards that are used. -/
def someL (l : List (List Int)) (n k : Nat) : List (List Int) := (selN l n k).map fun x => row l x
/-- What is told: the shards that are there, and those that are made again. -/
def rebL (l : List (List Int)) (n k m : Nat) (ρ : Nat → Nat → Nat) (i : Nat) : List Int := if pres l i then row l i else rowL m (tcol (ρ i) (someL l n k) k)
def RebQ (w : World) (n m : Nat) (L : Nat → List Int) (e : Ending) (w' : World) : Prop := ∃ ob cap hs, e = .returned (.tuple #[.slice (some ⟨ob, 0, none⟩) n cap, .int .i64 0]) ∧ KH.R 25 w' w.heap.size (fun _ => True) (.slice (some ⟨ob, 0, none⟩) n cap) hs ∧ Outs w' w.heap.size n m (fun _ => True) hs L ∧ Below w.heap.size w w'
theorem Outs.congr {W : World} {base n m : Nat} {P P' : Nat → Prop} {hs : List Hd} {L L' : Nat → List Int} (h : Outs W base n m P hs L) (hP : ∀ i, i < n → P' i → P i) (hL : ∀ i, i < n → P' i → L i = L' i) : Outs W base n m P' hs L' :=
  ⟨h.len, fun i hi hp => by obtain ⟨b, c, h1, h2, h3, h4⟩ := h.rows i hi (hP i hi hp); rw [hL i hi hp] at h3 h4; exact ⟨b, c, h1, h2, h3, h4⟩, fun i j x y hi hj hpi hpj => h.inj i j x y hi hj (hP i hi hpi) (hP j hj hpj)⟩
theorem KH_ok {W : World} {base e : Nat} {ok ok' : Nat → Prop} {v : Value} {xs : List Hd} (h : KH.R e W base ok v xs) (hk : ∀ k, v.ownBlock = some k → ok' k) : KH.R e W base ok' v xs := ⟨hk, h.2.imp_ (fun _ _ hp => hp)⟩
theorem Rows.pick {W : World} {hs : List Hd} {l : List (List Int)} (h : Rows W hs l) (sel : List Nat) (hsel : ∀ x ∈ sel, x < l.length) : Rows W (sel.map fun x => hs.getD x (none, 0, 0)) (sel.map fun x => row l x) := by
  refine ⟨by simp, fun i x hx => ?_⟩
  rw [List.getElem?_map] at hx
  obtain ⟨y, hy, rfl⟩ := Option.map_eq_some_iff.1 hx
  have hyl := hsel y (List.mem_of_getElem? hy)
  have hyh : y < hs.length := by rw [h.1]; exact hyl
  have e : row (sel.map fun x => row l x) i = row l y := by
    show (sel.map fun x => row l x).getD i [] = _
    rw [List.getD_eq_getElem?_getD, List.getElem?_map, hy]; rfl
  rw [e, List.getD_eq_getElem?_getD, List.getElem?_eq_getElem hyh]
  exact h.2 y _ (List.getElem?_eq_getElem hyh)
structure OwnM (W : World) (base : Nat) (hs : List Hd) (l : List (List Int)) : Prop where
  len : hs.length = l.length
  rows : ∀ (i : Nat) (x : Hd), hs[i]? = some x → x.2.1 = (row l i).length ∧ x.2.1 ≤ x.2.2 ∧ KB.R 5 W base (fun _ => True) (.slice x.1 x.2.1 x.2.2) (row l i)
theorem OwnM.move {W W1 : World} {base : Nat} {hs : List Hd} {l : List (List Int)} (h : OwnM W base hs l) (hm : ∀ v xs, KB.R 5 W base (fun _ => True) v xs → KB.R 5 W1 base (fun _ => True) v xs) : OwnM W1 base hs l :=
  ⟨h.len, fun i x hx => by obtain ⟨h1, h2, h3⟩ := h.rows i x hx; exact ⟨h1, h2, hm _ _ h3⟩⟩
theorem OwnM.below {W W1 : World} {base : Nat} {hs : List Hd} {l : List (List Int)} (h : OwnM W base hs l) (hb : Below W.heap.size W W1) : OwnM W1 base hs l := h.move fun _ _ h => Kd.R_below h hb
theorem OwnM.set {W : World} {base g t : Nat} {hs : List Hd} {l : List (List Int)} {cells : Array Value} (h : OwnM W base hs l) (hb : W.heap[g]? = some (.cells cells t (0, 0))) (ht : t ≠ 5) (j : Nat) (u : Value) : OwnM (W.setCell ⟨g, j, none⟩ u) base hs l := h.move fun _ _ h => Kd.R_set h hb (by simp [KB, Kd.int, Kd.scalar, ht.symm]) j u
theorem OwnM.toRows {W : World} {base : Nat} {hs : List Hd} {l : List (List Int)} (h : OwnM W base hs l) : Rows W hs l := ⟨h.len, fun i x hx => by
  obtain ⟨h1, h2, h3⟩ := h.rows i x hx
  refine ⟨h1, h2, ?_⟩
  have := (Kd.R_reads' h3).2.2
  rwa [← h1] at this⟩
/-- What holds while the missing rows are made. -/
structure RD (w W : World) (l bk : List (List Int)) (n m k ob cv : Nat) (P : Nat → Prop) (hsO hsA hsB hsS : List Hd) (vA vB vS vM : Value) (L : Nat → List Int) : Prop where
  two : Two w W (.slice (some ⟨ob, 0, none⟩) n cv) (.int .i64 0)
  out : KH.R 25 W w.heap.size (fun _ => True) (.slice (some ⟨ob, 0, none⟩) n cv) hsO
  outs : Outs W w.heap.size n m P hsO L
  mi : (Kd.int .i64).R 3 W w.heap.size (fun _ => True) vM (missL l)
  all : KH.R 25 W w.heap.size (fun x => x ≠ ob) vA hsA
  alls : AllAt w W k hsA
  back : KH.R 25 W w.heap.size (fun x => x ≠ ob) vB hsB
  backs : OwnM W w.heap.size hsB bk
  some : KH.R 25 W w.heap.size (fun x => x ≠ ob) vS hsS
section
variable {w W W1 : World} {l bk : List (List Int)} {n m k ob cv : Nat} {P : Nat → Prop} {hsO hsA hsB hsS : List Hd} {vA vB vS vM : Value} {L : Nat → List Int}
theorem RD.below (h : RD w W l bk n m k ob cv P hsO hsA hsB hsS vA vB vS vM L) (hb : Below W.heap.size W W1) : RD w W1 l bk n m k ob cv P hsO hsA hsB hsS vA vB vS vM L :=
  ⟨h.two.then_ hb, Kd.R_below h.out hb, h.outs.below hb, Kd.R_below h.mi hb, Kd.R_below h.all hb, h.alls.below hb, Kd.R_below h.back hb, h.backs.below hb, Kd.R_below h.some hb⟩
theorem RD.lay {y g : Nat} (h : RD w W l bk n m k ob cv P hsO hsA hsB hsS vA vB vS vM L) (hy : y < n) (hl : (L y).length = m) (hR : KB.R 5 W w.heap.size (fun _ => True) (.slice (.some ⟨g, 0, none⟩) m m) (L y)) (hnew : ∀ i x, i < n → P i → hsO[i]? = .some x → x.1 ≠ .some ⟨g, 0, none⟩) :
    RD w (W.setCell ⟨ob, y, none⟩ (.slice (.some ⟨g, 0, none⟩) m m)) l bk n m k ob cv (fun i => P i ∨ i = y) (hsO.set y (.some ⟨g, 0, none⟩, m, m)) hsA hsB hsS vA vB vS vM L := by
  have hob : (Value.slice (.some ⟨ob, 0, none⟩) n cv).ownBlock = .some ob := rfl
  obtain ⟨cells, hc⟩ := Kd.R_typed h.out ob hob
  have hge := Kd.R_base h.out ob hob
  have n0 := Kd.R_ne h.out h.two.at0 (by decide)
  have n1 := Kd.R_ne h.out h.two.at1 (by decide)
  rw [hob] at n0 n1
  have hlen : hsO.length = n := h.outs.len
  refine ⟨⟨below_set h.two.below hge, blkfar h.two.at0 (p := ⟨ob, y, none⟩) (fun e => n0 (by rw [e])) _, blkfar h.two.at1 (p := ⟨ob, y, none⟩) (fun e => n1 (by rw [e])) _⟩, ?_, (h.outs.put hy (Nat.le_refl _) hl hR hnew).set hc (by decide) y _, Kd.R_set h.mi hc (by simp [Kd.int, Kd.scalar]) y _, Kd.R_far (p := ⟨ob, y, none⟩) h.all (fun _ hk => hk) _, h.alls.set hc (by decide) y _, Kd.R_far (p := ⟨ob, y, none⟩) h.back (fun _ hk => hk) _, h.backs.set hc (by decide) y _, Kd.R_far (p := ⟨ob, y, none⟩) h.some (fun _ hk => hk) _⟩
  have ho := h.out
  rw [← hlen] at ho
  have := (Kd.R_put ho (y : Int) ((.some ⟨g, 0, none⟩, m, m) : Hd)).1
  rw [Int.toNat_natCast, hlen] at this
  exact this
theorem RD.cell {y : Nat} (h : RD w W l bk n m k ob cv P hsO hsA hsB hsS vA vB vS vM L) (hy : y < n) : ∃ v, W.cell? ⟨ob, y, none⟩ = .some v := by
  have hlen : hsO.length = n := h.outs.len
  have hC := (Kd.R_reads' (n := n) h.out).2.2
  rw [hlen] at hC
  have := KH_atA hC hy (List.getElem?_eq_getElem (by rw [hlen]; exact hy))
  rw [Addr.add_mid, Nat.zero_add] at this
  exact ⟨_, this⟩
theorem RD.free {y : Nat} (h : RD w W l bk n m k ob cv P hsO hsA hsB hsS vA vB vS vM L) : W.frozen? ⟨ob, y, none⟩ = false := by
  obtain ⟨cells, hc⟩ := Kd.R_typed h.out ob rfl
  exact frozen_blk hc
theorem RD.apart {g : Nat} (h : RD w W l bk n m k ob cv P hsO hsA hsB hsS vA vB vS vM L) (hg : W.heap.size ≤ g) : ∀ i x, i < n → P i → hsO[i]? = .some x → x.1 ≠ .some ⟨g, 0, none⟩ := fun i x hi hp hx e => by
  obtain ⟨b, c, h1, _, _, h4⟩ := h.outs.rows i hi hp
  rw [h1] at hx
  obtain rfl := Option.some.inj hx
  have := Kd.R_lt h4 b rfl
  injection e with e
  injection e with e
  omega
end
theorem RD.congr {w W : World} {l bk : List (List Int)} {n m k ob cv : Nat} {P P' : Nat → Prop} {hsO hsA hsB hsS : List Hd} {vA vB vS vM : Value} {L : Nat → List Int} (h : RD w W l bk n m k ob cv P hsO hsA hsB hsS vA vB vS vM L) (hP : ∀ i, i < n → P' i → P i) : RD w W l bk n m k ob cv P' hsO hsA hsB hsS vA vB vS vM L :=
  ⟨h.two, h.out, h.outs.congr hP (fun _ _ _ => rfl), h.mi, h.all, h.alls, h.back, h.backs, h.some⟩
theorem OwnM.lower {W : World} {base base' : Nat} {hs : List Hd} {l : List (List Int)} (h : OwnM W base hs l) (hb : base' ≤ base) : OwnM W base' hs l :=
  ⟨h.len, fun i x hx => by obtain ⟨h1, h2, h3⟩ := h.rows i x hx; exact ⟨h1, h2, Kd.R_lower h3 hb⟩⟩
theorem outs_pos {W : World} {base n m k : Nat} {P : Nat → Prop} {hs : List Hd} {L : Nat → List Int} (h : Outs W base n m P hs L) (hn : n = k + 2) : 0 < hs.length := by rw [h.len, hn]; exact Nat.succ_pos _
/-- One row of the matrix times the inverse. -/
theorem times_one {W : World} {A0 : Option Addr} {n0 c0 : Nat} {x : List Int} {A1 : Option Addr} {k c1 : Nat} {bk : List (List Int)} {r : List (List Int)} (hW : KB.C W A0 x.length x) (hn : n0 = x.length) (hc : n0 ≤ c0) (hb : KR.C W A1 k bk) (hbk : bk.length = k) (ht : timesF [x] bk = some (r, 0)) :
    Calls Try.prog 31 #[.slice (some ⟨W.heap.size, 0, none⟩) 1 1, .slice A1 k c1] (W.alloc (.cells #[.slice A0 n0 c0] 25)) fun e w' => ∃ v, e = .returned (.tuple #[v, .int .i64 0]) ∧ Kd.S (Kd.slice 5 (Kd.int .u8)) 25 w' (W.heap.size + 1) (fun _ => True) v r ∧ Below (W.alloc (.cells #[.slice A0 n0 c0] 25)).heap.size (W.alloc (.cells #[.slice A0 n0 c0] 25)) w' := by
  subst hn
  have h1 : KR.C (W.alloc (.cells #[.slice A0 x.length c0] 25)) (some ⟨W.heap.size, 0, none⟩) 1 [x] := KR_of (heap_alloc_last _ _) rfl (by omega) (fun j hj => by
    obtain rfl : j = 0 := by omega
    exact ⟨A0, c0, rfl, hc, Kd.C_alloc hW _⟩)
  have := times_calls (some ⟨W.heap.size, 0, none⟩) 1 [x] A1 c1 bk r 0 (W.alloc (.cells #[.slice A0 x.length c0] 25)) h1 (by rw [hbk]; exact Kd.C_alloc hb _) ht
  rw [hbk, World.size_alloc] at this
  rw [World.size_alloc]
  exact this
theorem le_big {m : Nat} (h : m ≤ 1000000) : m ≤ 1000000000 := by omega
/-- The used shards times a row: one that is made again. -/
theorem times_last {W : World} {Ar : Option Addr} {ρ : Nat → Nat} {B : Option Addr} {l : List (List Int)} {n k m c d : Nat} (hR : KB.C W Ar k (rowL k ρ)) (hρ : ∀ q, ρ q < 256) (hS : KR.C W B k ((selN l n k).map fun x => row l x)) (hsel : (selN l n k).length = k) (hok : okB l = true) (hl : l.length = n) (hm : ∀ i, i < n → pres l i → (row l i).length = m) (hk : 1 ≤ k) (hk2 : k ≤ 32) (hm9 : m ≤ 1000000) :
    Calls Try.prog 32 #[.slice Ar k c, .slice B k d] W (TimesQ W m (tcol ρ (someL l n k) k)) := by
  have h1 := times32 W Ar c (rowL k ρ) (by rw [rowL_length]; exact hR) ρ hρ (fun i hi => by rw [rowL_length] at hi; simp [rowL, List.getD, hi]) B d (someL l n k) (by unfold someL; rw [List.length_map, hsel]; exact hS) k m (by unfold someL; rw [List.length_map, hsel]) (by omega) (by rw [rowL_length]; exact Nat.le_refl _) (by omega) hm9
    (by
      unfold okB someL
      rw [List.all_eq_true]
      intro r hr
      obtain ⟨x, hx, rfl⟩ := List.mem_map.mp hr
      have hxn := (selN_lt hx).1
      have : row l x ∈ l := by
        unfold row
        rw [List.getD_eq_getElem?_getD, List.getElem?_eq_getElem (by omega)]
        exact List.getElem_mem _
      exact List.all_eq_true.mp hok _ this)
    (fun i hi => by
      have hi2 : i < (selN l n k).length := by omega
      have e : row (someL l n k) i = row l (selN l n k)[i] := by
        unfold someL
        show ((selN l n k).map fun x => row l x).getD i [] = _
        rw [List.getD_eq_getElem?_getD, List.getElem?_map, List.getElem?_eq_getElem hi2]; rfl
      rw [e]
      have := selN_lt (List.getElem_mem hi2)
      exact hm _ this.1 this.2)
  rw [rowL_length] at h1
  exact h1
/-- The numbers of the shards that are missing. -/
def missN (l : List (List Int)) (n : Nat) : List Nat := (List.range' 0 n).filter fun q => decide ((row l q).length = 0)
theorem missL_eq {l : List (List Int)} {n : Nat} (hl : l.length = n) : missL l = (missN l n).map fun (x : Nat) => (x : Int) := by unfold missL missFrom missN; rw [hl]
theorem missN_mem {l : List (List Int)} {n x : Nat} : x ∈ missN l n ↔ x < n ∧ ¬ pres l x := by
  unfold missN pres
  rw [List.mem_filter]
  simp [List.mem_range'_1]
end Go.Proofs.Ytjolnjckgoilpaa.Rs
end
