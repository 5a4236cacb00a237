/-
  Two sets side by side: the program's and the reference's, and what holds of both.
-/
import Derived.Test.YtpfkfnphjbgohaaElSom
import Derived.Test.YtpfkfnphjbgohaaElRL2
import Derived.Test.YtpfkfnphjbgohaaElEr
import Derived.Test.YtpfkfnphjbgohaaPEax5
set_option linter.unusedVariables false
set_option linter.unusedSimpArgs false
namespace Go.Proofs.Ytpfkfnphjbgohaa.El
open Go.RowKit Go.Proofs.YtpfkfnphjbgohaaW.PrintWords Go.Proofs.YtpfkfnphjbgohaaW.PrintLast Go.Proofs.YtpfkfnphjbgohaaW.PrintMore Go.Proofs.Ytpfkfnphjbgohaa.PEa
attribute [local go_sem] binS_leq binS_gtr binS_geq max2_int min2_int max_two min_two maxS_two minS_two
/-- Both sets, made since w0, their rows in blocks of their own. -/
def J (w0 W : World) (gs gr : Nat) (S R : List S27) : Prop :=
  ∃ vs vr, W.heap[gs]? = some (.cells #[vs] 64 (0, 0)) ∧ W.heap[gr]? = some (.cells #[vr] 42 (0, 0)) ∧ Kd.R k27 27 W w0.heap.size (fun _ => True) vs S ∧ Kd.R k27 27 W w0.heap.size (fun _ => True) vr R ∧ (∀ k, vs.ownBlock = some k → vr.ownBlock ≠ some k) ∧ Below w0.heap.size w0 W ∧ w0.heap.size ≤ gs ∧ w0.heap.size ≤ gr
theorem J.below {w0 W : World} {gs gr : Nat} {S R : List S27} (h : J w0 W gs gr S R) : Below w0.heap.size w0 W := by
  obtain ⟨vs, vr, h1, h2, h3, h4, h5, h6, h7, h8⟩ := h
  exact h6
theorem J.then_ {w0 W W' : World} {gs gr : Nat} {S R : List S27} (h : J w0 W gs gr S R) (hb : Below W.heap.size W W') : J w0 W' gs gr S R := by
  obtain ⟨vs, vr, h1, h2, h3, h4, h5, h6, h7, h8⟩ := h
  exact ⟨vs, vr, blk_below h1 hb, blk_below h2 hb, Kd.R_below h3 hb, Kd.R_below h4 hb, h5, below_then h6 h6.size hb, h7, h8⟩
theorem J.es {w0 W : World} {gs gr : Nat} {S R : List S27} (h : J w0 W gs gr S R) : Es w0 W gs S := by
  obtain ⟨vs, vr, h1, h2, h3, h4, h5, h6, h7, h8⟩ := h
  exact ⟨vs, h1, h3, h6, h7⟩
theorem J.er {w0 W : World} {gs gr : Nat} {S R : List S27} (h : J w0 W gs gr S R) : Er w0 W gr R := by
  obtain ⟨vs, vr, h1, h2, h3, h4, h5, h6, h7, h8⟩ := h
  exact ⟨vr, h2, h4, h6, h8⟩
theorem box_ne {W : World} {g g' : Nat} {v v' : Value} (h : W.heap[g]? = some (.cells #[v] 64 (0, 0))) (h' : W.heap[g']? = some (.cells #[v'] 42 (0, 0))) : g ≠ g' := by
  rintro rfl
  rw [h] at h'
  simp at h'
/-- The program's set has a new row. -/
theorem J.sNew {w0 W W' : World} {gs gr : Nat} {S R S' : List S27} (h : J w0 W gs gr S R) (hn : NewRow 64 W gs S' W') : J w0 W' gs gr S' R := by
  obtain ⟨vs, vr, h1, h2, h3, h4, h5, h6, h7, h8⟩ := h
  obtain ⟨v', k1, k2, k3⟩ := hn
  refine ⟨v', vr, k1, (k3.block gr (blk_lt h2) (fun e => box_ne h1 h2 (by injection e with e; exact e.symm))).trans h2, Kd.R_lower k2 h6.size, ?_, fun k hk he => ?_, h6.grown k3 h6.size (fun k hk => by cases hk; exact h7), h7, h8⟩
  · exact Kd.R_mono (Kd.R_grown (Kd.R_types h4 h1 (by decide)) k3 (fun k hk e => hk.2 (by injection e))) (fun _ _ => trivial)
  · have e1 := Kd.R_base k2 k hk
    have e2 := Kd.R_lt h4 k he
    omega
/-- The reference's set has a new row. -/
theorem J.rNew {w0 W W' : World} {gs gr : Nat} {S R R' : List S27} (h : J w0 W gs gr S R) (hn : NewRow 42 W gr R' W') : J w0 W' gs gr S R' := by
  obtain ⟨vs, vr, h1, h2, h3, h4, h5, h6, h7, h8⟩ := h
  obtain ⟨v', k1, k2, k3⟩ := hn
  refine ⟨vs, v', (k3.block gs (blk_lt h1) (fun e => box_ne h1 h2 (by injection e))).trans h1, k1, ?_, Kd.R_lower k2 h6.size, fun k hk he => ?_, h6.grown k3 h6.size (fun k hk => by cases hk; exact h8), h7, h8⟩
  · exact Kd.R_mono (Kd.R_grown (Kd.R_types h3 h2 (by decide)) k3 (fun k hk e => hk.2 (by injection e))) (fun _ _ => trivial)
  · have e1 := Kd.R_base k2 k he
    have e2 := Kd.R_lt h3 k hk
    omega
theorem R_own27 {W : World} {base : Nat} {ok ok' : Nat → Prop} {v : Value} {xs : List S27} (h : Kd.R k27 27 W base ok v xs) (hk : ∀ k, v.ownBlock = some k → ok' k) : Kd.R k27 27 W base ok' v xs :=
  ⟨hk, h.2.imp_ (fun x cs hM => by obtain rfl := k27_openM hM; exact k27_mkM _ _ _ _)⟩
def chk (e : S27) : Int := if e.f0 < e.f1 then 0 else 1
def sAdd (S : List S27) (e : S27) : List S27 := if e.f0 < e.f1 then addF S e else S
def rAdd (R : List S27) (e : S27) : List S27 := if e.f0 < e.f1 then R ++ [e] else R
set_option maxHeartbeats 4000000 in
theorem add14n (w : World) (p : Value) (e : S27) (he : ¬ e.f0 < e.f1) : Calls Try.prog 14 #[p, .agg #[.string e.f0, .string e.f1, .int .u64 e.f2]] w fun r w' => r = .returned (.int .i64 1) ∧ Below w.heap.size w w' := by
  have hc := Aside0.mk check12
  have HE := Aside0.mk he
  clear he
  go_enter Try.func14, Try.ntmps14
  go_wp2_with (first
    | ((with_reducible refine gate_dst (N := 3) rfl ?_); refine box_event ?hg (N := 3) ?hd (cs := #[.string e.f0, .string e.f1, .int .u64 e.f2]) (t := 27) ?hr ?_; (case hd => rfl); (case hg => rfl); (case hr => first | (go_simp; done) | (go_simp; rfl)); intro ge hge w1 hbox hb; have HB := Aside0.mk hb; have HX := Aside0.mk (show box27 w1 ge e from hbox); have hce := box_cells HX.out; clear hb hbox hge)
    | (go_at_call 12; refine (hc.out _ e).mono ?_; rintro r w2 ⟨rfl, hb1⟩; rw [if_neg HE.out]; clear hce; have HB2 := Aside0.mk (below_then HB.out HB.out.size hb1); clear hb1 HX HB))
  go_ret
  exact ⟨rfl, HB2.out⟩
theorem sAddJ {w0 W : World} {gs gr : Nat} {S R : List S27} (h : J w0 W gs gr S R) (hl : S.length ≤ 100000) (e : S27) :
    Calls Try.prog 14 #[.pointer (some ⟨gs, 0, none⟩), .agg #[.string e.f0, .string e.f1, .int .u64 e.f2]] W fun r w' => r = .returned (.int .i64 (chk e)) ∧ J w0 w' gs gr (sAdd S e) R := by
  by_cases he : e.f0 < e.f1
  · obtain ⟨A, c, h1, h2, h3⟩ := h.es.open_
    refine (add14 W gs A c S e h1 h2 hl he).mono ?_
    rintro r w' ⟨rfl, hq⟩
    rw [chk, sAdd, if_pos he, if_pos he]
    exact ⟨rfl, h.sNew hq⟩
  · refine (add14n W _ e he).mono ?_
    rintro r w' ⟨rfl, hb⟩
    rw [chk, sAdd, if_neg he, if_neg he]
    exact ⟨rfl, h.then_ hb⟩
theorem rAddJ {w0 W : World} {gs gr : Nat} {S R : List S27} (h : J w0 W gs gr S R) (hl : R.length ≤ 1000000) (e : S27) :
    Calls Try.prog 16 #[.pointer (some ⟨gr, 0, none⟩), .agg #[.string e.f0, .string e.f1, .int .u64 e.f2]] W fun r w' => r = .returned (.int .i64 (chk e)) ∧ J w0 w' gs gr S (rAdd R e) := by
  by_cases he : e.f0 < e.f1
  · obtain ⟨vs, vr, h1, h2, h3, h4, h5, h6, h7, h8⟩ := h
    obtain ⟨A, n, c, rfl⟩ := R_slice3 h4
    refine (radd16 W w0.heap.size gr A n c R e h2 h4 h8 hl he).mono ?_
    rintro r w' ⟨rfl, v', k1, k2, k3, k4, k5⟩
    rw [chk, rAdd, if_pos he, if_pos he]
    have hng : ¬ (gs = gr ∨ some gs = (Value.slice A n c).ownBlock) := by
      rintro (e | e)
      · exact box_ne h1 h2 e
      · exact Kd.R_ne h4 h1 (by decide) e
    have hR2 : Kd.R k27 27 W w0.heap.size (fun k => k ≠ gr ∧ some k ≠ (Value.slice A n c).ownBlock) vs S := R_own27 h3 (fun k hk => ⟨fun e => Kd.R_ne h3 h2 (by decide) (by rw [hk, e]), fun e => h5 k hk e.symm⟩)
    refine ⟨rfl, vs, v', (k3.2 gs (blk_lt h1) hng).trans h1, k1, Kd.R_mono (Kd.R_step hR2 (fun k hk hl => k3.2 k hl (by rintro (e | e); exact hk.1 e; exact hk.2 e))) (fun _ _ => trivial), k2, fun k hk e => ?_, h6.trans k4, h7, h8⟩
    rcases k5 with k5 | ⟨b, k5, k6⟩
    · exact h5 k hk (by rw [← k5]; exact e)
    · rw [k5] at e
      injection e with e
      have := Kd.R_lt h3 k hk
      omega
  · refine (radd16n W _ e he).mono ?_
    rintro r w' ⟨rfl, hb⟩
    rw [chk, rAdd, if_neg he, if_neg he]
    exact ⟨rfl, h.then_ hb⟩
theorem sForgetJ {w0 W : World} {gs gr : Nat} {S R : List S27} (h : J w0 W gs gr S R) (hl : S.length ≤ 100000) (up : Int) :
    Calls Try.prog 24 #[.pointer (some ⟨gs, 0, none⟩), .int .u64 up] W fun r w' => r = .returned (.int .i64 (gone S up)) ∧ J w0 w' gs gr (keepF S up) R := by
  obtain ⟨A, c, h1, h2, h3⟩ := h.es.open_
  refine (forget24 W gs A c S up h1 h2 h3 (by omega)).mono ?_
  rintro r w' ⟨rfl, hq⟩
  exact ⟨rfl, h.sNew hq⟩
theorem rForgetJ {w0 W : World} {gs gr : Nat} {S R : List S27} (h : J w0 W gs gr S R) (hl : R.length ≤ 100000) (up : Int) :
    Calls Try.prog 25 #[.pointer (some ⟨gr, 0, none⟩), .int .u64 up] W fun r w' => r = .returned (.int .i64 (gone (refList R) up)) ∧ J w0 w' gs gr S (keepF (refList R) up) := by
  obtain ⟨A, c, h1, h2, h3⟩ := h.er.open_
  refine (rforget25 W gr A c R up h1 h2 (by omega)).mono ?_
  rintro r w' ⟨rfl, hq⟩
  exact ⟨rfl, h.rNew hq⟩
/-- What a call that tells a row leaves: the row, readable. -/
def TellQ (w : World) (xs : List S27) (r : Ending) (w' : World) : Prop := ∃ A c, r = .returned (.slice A xs.length c) ∧ xs.length ≤ c ∧ Kd.C k27 w' A xs.length xs ∧ Below w.heap.size w w'
theorem tell_of {w w' : World} {xs : List S27} {r : Ending} (h : CloneQ w xs r w') : TellQ w xs r w' := by
  obtain ⟨v, rfl, hR, hb⟩ := h
  obtain ⟨A, c, rfl, hc, hC⟩ := Kd.R_reads hR
  exact ⟨A, c, rfl, hc, hC, hb⟩
theorem sListJ {w0 W : World} {gs gr : Nat} {S R : List S27} (h : J w0 W gs gr S R) (hl : S.length ≤ 100000) : Calls Try.prog 10 #[.pointer (some ⟨gs, 0, none⟩)] W (TellQ W S) :=
  (listE h.es (by omega)).mono fun _ _ q => tell_of q
theorem rListJ {w0 W : World} {gs gr : Nat} {S R : List S27} (h : J w0 W gs gr S R) (hl : R.length ≤ 100000) : Calls Try.prog 26 #[.pointer (some ⟨gr, 0, none⟩)] W (TellQ W (refList R)) := by
  obtain ⟨A, c, h1, h2, h3⟩ := h.er.open_
  exact (list26 W gr A c R h1 h2 (by omega)).mono fun _ _ q => tell_of q
theorem sOverJ {w0 W : World} {gs gr : Nat} {S R : List S27} (h : J w0 W gs gr S R) (hl : S.length ≤ 100000) (lo hi : ByteArray) : Calls Try.prog 31 #[.pointer (some ⟨gs, 0, none⟩), .string lo, .string hi] W (TellQ W (overF S lo hi)) := by
  obtain ⟨A, c, h1, h2, h3⟩ := h.es.open_
  exact (over31 W gs A c S lo hi h1 h2 h3 (by omega)).mono fun _ _ q => tell_of q
theorem rOverJ {w0 W : World} {gs gr : Nat} {S R : List S27} (h : J w0 W gs gr S R) (hl : R.length ≤ 100000) (lo hi : ByteArray) : Calls Try.prog 32 #[.pointer (some ⟨gr, 0, none⟩), .string lo, .string hi] W (TellQ W (overF (refList R) lo hi)) := by
  obtain ⟨A, c, h1, h2, h3⟩ := h.er.open_
  exact (rover32 W gr A c R lo hi h1 h2 (by omega)).mono fun _ _ q => tell_of q
theorem sLenJ {w0 W : World} {gs gr : Nat} {S R : List S27} (h : J w0 W gs gr S R) : Calls Try.prog 27 #[.pointer (some ⟨gs, 0, none⟩)] W fun r w' => r = .returned (.int .i64 (S.length : Int)) ∧ Below W.heap.size W w' := by
  obtain ⟨A, c, h1, h2, h3⟩ := h.es.open_
  exact len27 W gs A S.length c h1
theorem sHasJ {w0 W : World} {gs gr : Nat} {S R : List S27} (h : J w0 W gs gr S R) (hl : S.length ≤ 100000) (hp : Pln S) (key : ByteArray) (seq : Int) : Calls Try.prog 13 #[.pointer (some ⟨gs, 0, none⟩), .string key, .int .u64 seq] W fun r w' => r = .returned (.bool (hasB S key seq)) ∧ Below W.heap.size W w' := by
  obtain ⟨A, c, h1, h2, h3⟩ := h.es.open_
  exact has13 W gs A c S key seq h1 h2 (by omega) hp
theorem rHasJ {w0 W : World} {gs gr : Nat} {S R : List S27} (h : J w0 W gs gr S R) (hl : R.length ≤ 100000) (key : ByteArray) (seq : Int) : Calls Try.prog 28 #[.pointer (some ⟨gr, 0, none⟩), .string key, .int .u64 seq] W fun r w' => r = .returned (.bool (hasB R key seq)) ∧ Below W.heap.size W w' := by
  obtain ⟨A, c, h1, h2, h3⟩ := h.er.open_
  exact rhas28 W gr A c R key seq h1 h2 (by omega)
/-! ### what holds of both -/
structure Pl (B : List ByteArray) (S R : List S27) (m : Nat) : Prop where
  cano : Cano S
  val : ∀ x ∈ R, x.f0 < x.f1
  same : ∀ k q, H S k q ↔ H R k q
  eS : Ends B S
  eR : Ends B R
  len : R.length ≤ m
theorem Pl.eq {B : List ByteArray} {S R : List S27} {m : Nat} (h : Pl B S R m) : refList R = S :=
  cano_eq (refList_spec R).1 h.cano (fun k q => ((refList_spec R).2 k q).trans (h.same k q).symm)
theorem Pl.lenS {B : List ByteArray} {S R : List S27} {m : Nat} (h : Pl B S R m) : S.length ≤ B.length := cano_len h.cano h.eS
theorem Pl.has {B : List ByteArray} {S R : List S27} {m : Nat} (h : Pl B S R m) (k : ByteArray) (q : Int) : hasB R k q = hasB S k q := by
  rw [Bool.eq_iff_iff, hasB_iff, hasB_iff]
  exact (h.same k q).symm
theorem Pl.add {B : List ByteArray} {S R : List S27} {m : Nat} (h : Pl B S R m) (e : S27) (h0 : e.f0 ∈ B) (h1 : e.f1 ∈ B) : Pl B (sAdd S e) (rAdd R e) (m + 1) := by
  unfold sAdd rAdd
  by_cases he : e.f0 < e.f1
  · rw [if_pos he, if_pos he]
    obtain ⟨a1, a2, a3⟩ := addF_spec h.cano he h.eS h0 h1
    refine ⟨a1, ?_, fun k q => ?_, a3, ?_, ?_⟩
    · intro x hx
      rcases List.mem_append.mp hx with hx | hx
      · exact h.val x hx
      · simp at hx; subst hx; exact he
    · rw [a2, H_append, H_one, h.same]
    · intro x hx
      rcases List.mem_append.mp hx with hx | hx
      · exact h.eR x hx
      · simp at hx; subst hx; exact ⟨h0, h1⟩
    · have := h.len; simp; omega
  · rw [if_neg he, if_neg he]
    exact ⟨h.cano, h.val, h.same, h.eS, h.eR, by have := h.len; omega⟩
theorem Pl.keep {B : List ByteArray} {S R : List S27} {m : Nat} (h : Pl B S R m) (hm : B.length ≤ m) (up : Int) : Pl B (keepF S up) (keepF S up) m := by
  have hc : Cano (keepF S up) := ⟨h.cano.ord.filter _, fun x hx => h.cano.full x (List.mem_filter.mp hx).1⟩
  have he : Ends B (keepF S up) := fun y hy => h.eS y (List.mem_filter.mp hy).1
  exact ⟨hc, hc.full, fun _ _ => Iff.rfl, he, he, by have := cano_len hc he; omega⟩
theorem Pl.start {B : List ByteArray} {l : List S27} {m : Nat} (hv : ∀ x ∈ l, x.f0 < x.f1) (hB : ∀ x ∈ ends l, x ∈ B) (hm : l.length ≤ m) : Pl B (addAll l) l m := by
  obtain ⟨a1, a2, a3⟩ := all_spec hv
  exact ⟨a1, hv, a2, a3.mono hB, ends_of.mono hB, hm⟩
/-! ### Compare -/
def cmpE (x y : S27) : Int := if x.f0 < y.f0 then -1 else if y.f0 < x.f0 then 1 else if x.f1 < y.f1 then -1 else if y.f1 < x.f1 then 1 else if x.f2 < y.f2 then -1 else if y.f2 < x.f2 then 1 else 0
theorem cmpS_own (x y : ByteArray) : cmp_Compare_string.f x y = some (if x < y then -1 else if y < x then 1 else 0) := by
  have h1 : ∀ x : ByteArray, cmp_isNaN_string.f x = some false := fun x => by simp [cmp_isNaN_string.f]
  rw [cmp_Compare_string.f, h1, h1]
  simp only [Option.bind_some, Bool.false_eq_true, if_false]
  by_cases h : x < y
  · rw [if_pos (less_true.mpr h), if_pos h]
  · rw [if_neg (fun g => h (less_true.mp g)), if_neg h]
    by_cases h' : y < x
    · rw [if_pos (less_true.mpr h'), if_pos h']
    · rw [if_neg (fun g => h' (less_true.mp g)), if_neg h']
theorem cmpU_own (x y : Int) : cmp_Compare_uint64.f x y = some (if x < y then -1 else if y < x then 1 else 0) := by
  have h1 : ∀ x : Int, cmp_isNaN_uint64.f x = some false := fun x => by simp [cmp_isNaN_uint64.f]
  rw [cmp_Compare_uint64.f, h1, h1]
  simp only [Option.bind_some, Bool.false_eq_true, if_false]
  by_cases h : x < y
  · rw [if_pos h, if_pos h]
  · rw [if_neg h, if_neg h]
    by_cases h' : y < x
    · rw [if_pos (by omega), if_pos h']
    · rw [if_neg (by omega), if_neg h']
theorem or3 (k : Nat) (a b c : Int) : cmp_Or_int.f (k + 4) [a, b, c] = some (if a = 0 then (if b = 0 then c else b) else a) := by
  unfold cmp_Or_int.f
  simp only [cmp_Or_int.l0, List.length_cons, List.length_nil]
  have e1 : wrap64 (0 + 1) = 1 := by unfold wrap64; decide
  have e2 : wrap64 (1 + 1) = 2 := by unfold wrap64; decide
  have e3 : wrap64 (2 + 1) = 3 := by unfold wrap64; decide
  rw [e1, e2, e3]
  by_cases ha : a = 0
  · by_cases hb : b = 0
    · by_cases hc : c = 0
      · simp [rd, ha, hb, hc]
      · simp [rd, ha, hb, hc]
    · simp [rd, ha, hb]
  · simp [rd, ha]
theorem cmpE_ref (x y : S27) : flintref12_Compare.f x.f0 x.f1 x.f2 y.f0 y.f1 y.f2 = some (cmpE x y) := by
  unfold flintref12_Compare.f cmpE
  by_cases h0 : x.f0 = y.f0
  · have n1 : ¬ x.f0 < y.f0 := by grind
    have n2 : ¬ y.f0 < x.f0 := by grind
    rw [if_neg n1, if_neg n2, if_pos (show x.f0.toList = y.f0.toList by rw [h0])]
    by_cases h1 : x.f1 = y.f1
    · have n3 : ¬ x.f1 < y.f1 := by grind
      have n4 : ¬ y.f1 < x.f1 := by grind
      rw [if_neg n3, if_neg n4, if_pos (show x.f1.toList = y.f1.toList by rw [h1])]
      by_cases h2 : x.f2 < y.f2
      · rw [if_pos h2, if_pos h2]
      · rw [if_neg h2, if_neg h2]
        by_cases h3 : y.f2 < x.f2
        · rw [if_pos (show x.f2 > y.f2 from h3), if_pos h3]
        · rw [if_neg (show ¬ x.f2 > y.f2 from h3), if_neg h3]
    · rw [if_neg (fun e => h1 (toList_inj.mp e))]
      by_cases h2 : x.f1 < y.f1
      · rw [if_pos (less_true.mpr h2), if_pos h2]
      · have n4 : y.f1 < x.f1 := by grind
        rw [if_neg (fun g => h2 (less_true.mp g)), if_neg h2, if_pos n4]
  · rw [if_neg (fun e => h0 (toList_inj.mp e))]
    by_cases h2 : x.f0 < y.f0
    · rw [if_pos (less_true.mpr h2), if_pos h2]
    · have n4 : y.f0 < x.f0 := by grind
      rw [if_neg (fun g => h2 (less_true.mp g)), if_neg h2, if_pos n4]
theorem cmpE_own (x y : S27) : elide_Compare.f 4 x.f0 x.f1 x.f2 y.f0 y.f1 y.f2 = some (cmpE x y) := by
  unfold elide_Compare.f
  rw [cmpS_own, cmpS_own, cmpU_own]
  simp only [Option.bind_some]
  rw [show (4 : Nat) = 0 + 4 from rfl, or3]
  unfold cmpE
  by_cases hh : (x.f0.toList == y.f0.toList && (x.f1.toList == y.f1.toList && (x.f2 == y.f2))) = true
  · rw [if_pos hh]
    simp only [Bool.and_eq_true, beq_iff_eq] at hh
    have h0 := toList_inj.mp hh.1
    have h1 := toList_inj.mp hh.2.1
    have h2 := hh.2.2
    rw [if_neg (by grind), if_neg (by grind), if_neg (by grind), if_neg (by grind), if_neg (by omega), if_neg (by omega)]
  · rw [if_neg hh]
    simp only [Option.bind_some]
    congr 1
    by_cases g0 : x.f0 < y.f0
    · simp [g0]
    · by_cases g1 : y.f0 < x.f0
      · simp [g0, g1]
      · by_cases g2 : x.f1 < y.f1
        · simp [g0, g1, g2]
        · by_cases g3 : y.f1 < x.f1
          · simp [g0, g1, g2, g3]
          · simp [g0, g1, g2, g3]
theorem cmp29 (w : World) (x y : S27) : Calls Try.prog 29 #[.agg #[.string x.f0, .string x.f1, .int .u64 x.f2], .agg #[.string y.f0, .string y.f1, .int .u64 y.f2]] w fun e w' => e = .returned (.int .i64 (cmpE x y)) ∧ Below w.heap.size w w' :=
  elide_Compare.calls 4 _ _ _ _ _ _ _ w (cmpE_own x y)
theorem cmp30 (w : World) (x y : S27) : Calls Try.prog 30 #[.agg #[.string x.f0, .string x.f1, .int .u64 x.f2], .agg #[.string y.f0, .string y.f1, .int .u64 y.f2]] w fun e w' => e = .returned (.int .i64 (cmpE x y)) ∧ Below w.heap.size w w' :=
  flintref12_Compare.calls _ _ _ _ _ _ _ w (cmpE_ref x y)
end Go.Proofs.Ytpfkfnphjbgohaa.El
