/- Several texts of this session laid together: RsMin, RsReb, RsSame. -/
import Derived.Test.YtjolnjckgoilpaaMAlg
import Derived.Test.YtjolnjckgoilpaaRsFp
import Derived.Test.YtjolnjckgoilpaaRsRb
import Derived.Test.YtjolnjckgoilpaaPRax2
section
/-
  Copies of rows of any lengths; rows that are written anew; shards of which some are missing.
-/
set_option linter.unusedVariables false
set_option linter.unusedSimpArgs false
namespace Go.Proofs.Ytjolnjckgoilpaa.Rs
open Go.RowKit Go.Proofs.YtjolnjckgoilpaaW.PrintWords Go.Proofs.YtjolnjckgoilpaaW.PrintLast Go.Proofs.YtjolnjckgoilpaaW.PrintMore Go.Proofs.Ytjolnjckgoilpaa.PRa Go.Proofs.Ytjolnjckgoilpaa.Gf
theorem OwnM.over {W W1 : World} {base base' : Nat} {hs hs' : List Hd} {l : List (List Int)} {v : Value} {ok : Nat → Prop} (h : OwnM W base hs l) (hv : KH.R 25 W base' ok v hs') (hg : W.grownBy W1 v.ownBlock) : OwnM W1 base hs l := h.move fun _ _ h => Kd.R_over h hv (by simp [KB, Kd.int, Kd.scalar]) hg
theorem OwnM.grown {W W1 : World} {base : Nat} {hs : List Hd} {l : List (List Int)} {o : Obj} (h : OwnM W base hs l) (hg : (W.alloc o).grownBy W1 (some W.heap.size)) : OwnM W1 base hs l :=
  h.move fun _ _ h => Kd.R_mono (Kd.R_grown (ok := fun k => True ∧ k ≠ W.heap.size) (Kd.R_alloc (Kd.R_elderB h W.heap.size (Nat.le_refl _)) o) hg (fun k hk e => hk.2 (by injection e))) (fun _ _ => trivial)
theorem OwnM.nil (W : World) (base : Nat) : OwnM W base [] [] := ⟨rfl, fun i x hx => by simp at hx⟩
theorem OwnM.snoc {W : World} {base c : Nat} {A : Option Addr} {hs : List Hd} {l : List (List Int)} {x : List Int} (h : OwnM W base hs l) (hc : x.length ≤ c) (hR : KB.R 5 W base (fun _ => True) (.slice A x.length c) x) : OwnM W base (hs ++ [(A, x.length, c)]) (l ++ [x]) := by
  refine ⟨by simp [h.len], fun i y hy => ?_⟩
  rcases Nat.lt_or_ge i hs.length with hi | hi
  · rw [List.getElem?_append_left hi] at hy
    have e : row (l ++ [x]) i = row l i := by
      unfold row
      rw [List.getD_eq_getElem?_getD, List.getElem?_append_left (by rw [← h.len]; exact hi), List.getD_eq_getElem?_getD]
    rw [e]
    exact h.rows i y hy
  · rw [List.getElem?_append_right hi] at hy
    have hi0 : i - hs.length = 0 := by
      have := (List.getElem?_eq_some_iff.1 hy).1
      simp at this
      omega
    rw [hi0] at hy
    obtain rfl := Option.some.inj hy
    have e : row (l ++ [x]) i = x := by
      unfold row
      rw [List.getD_eq_getElem?_getD, List.getElem?_append_right (by rw [← h.len]; exact hi), ← h.len, hi0]
      rfl
    rw [e]
    exact ⟨rfl, hc, hR⟩
/-- One byte of one of the rows is written. -/
theorem Outs.write {W : World} {base n m i j b c : Nat} {hs : List Hd} {L : Nat → List Int} (h : Outs W base n m (fun _ => True) hs L) (hi : i < n) (hx : hs[i]? = some (some ⟨b, 0, none⟩, m, c)) (v : Int) :
    Outs (W.setCell ⟨b, j, none⟩ (.int .u8 v)) base n m (fun _ => True) hs (fun q => if q = i then (L i).set j v else L q) := by
  refine ⟨h.len, fun q hq _ => ?_, h.inj⟩
  obtain ⟨b', c', h1, h2, h3, h4⟩ := h.rows q hq trivial
  by_cases e : q = i
  · subst e
    rw [hx] at h1
    obtain ⟨rfl, rfl⟩ : b = b' ∧ c = c' := by
      have := Option.some.inj h1
      simp only [Prod.mk.injEq, Option.some.injEq, Addr.mk.injEq] at this
      exact ⟨this.1.1, this.2.2⟩
    refine ⟨b, c, hx, h2, by rw [if_pos rfl, List.length_set]; exact h3, ?_⟩
    rw [if_pos rfl]
    have h5 : KB.R 5 W base (fun _ => True) (.slice (some ⟨b, 0, none⟩) (L q).length c) (L q) := by rw [h3]; exact h4
    have h6 := (Kd.R_put h5 (j : Int) v).1
    rw [Int.toNat_natCast, h3] at h6
    exact h6
  · refine ⟨b', c', h1, h2, by rw [if_neg e]; exact h3, ?_⟩
    rw [if_neg e]
    have h5 : KB.R 5 W base (fun k => k = b') (.slice (some ⟨b', 0, none⟩) m c') (L q) := R_bytes_ok h4 (fun k hk => by simpa [Value.ownBlock, eq_comm] using hk)
    exact Kd.R_mono (Kd.R_far (p := ⟨b, j, none⟩) h5 (fun k hk hk2 => e (h.inj q i _ _ hq hi trivial trivial h1 hx (by show (some (⟨b', 0, none⟩ : Addr)) = some ⟨b, 0, none⟩; rw [← hk, hk2]))) (.int .u8 v)) (fun _ _ => trivial)
theorem Outs.cell {W : World} {base n m i j : Nat} {hs : List Hd} {L : Nat → List Int} (h : Outs W base n m (fun _ => True) hs L) (hi : i < n) (hj : j < m) : ∃ b c, hs[i]? = some (some ⟨b, 0, none⟩, m, c) ∧ base ≤ b ∧ W.cell? ⟨b, j, none⟩ = some (.int .u8 (rdOf 0 (L i) (j : Int))) ∧ W.frozen? ⟨b, j, none⟩ = false := by
  obtain ⟨b, c, h1, h2, h3, h4⟩ := h.rows i hi trivial
  have h5 : KB.R 5 W base (fun _ => True) (.slice (some ⟨b, 0, none⟩) (L i).length c) (L i) := by rw [h3]; exact h4
  have h6 := Kd.R_cell (0 : Int) h5 (j : Int) (by omega) (by omega)
  rw [Int.toNat_natCast] at h6
  exact ⟨b, c, h1, Kd.R_base h4 b rfl, h6.1, h6.2⟩
theorem sizes_some (m : Nat) : ∀ (l : List (List Int)) (s : Nat), (s = 0 ∨ s = m) → (∀ x ∈ l, x.length = 0 ∨ x.length = m) → sizesB s l = true := by
  intro l
  induction l with
  | nil => intro s _ _; rfl
  | cons x l ih =>
    intro s hs h
    have hx := h x List.mem_cons_self
    simp only [sizesB]
    rw [ih (max s x.length) (by rcases hs with rfl | rfl <;> rcases hx with e | e <;> rw [e] <;> omega) (fun y hy => h y (List.mem_cons_of_mem _ hy)), Bool.and_true]
    rcases hs with rfl | rfl
    · simp
    · rcases hx with e | e
      · simp [e]
      · simp [e]
theorem sizes_pos : ∀ (l : List (List Int)) (s : Nat), 0 < s → sizesB s l = true → (∀ x ∈ l, 0 < x.length) → ∀ x ∈ l, x.length = s := by
  intro l
  induction l with
  | nil => intro s _ _ _ x hx; cases hx
  | cons y l ih =>
    intro s hs h hp x hx
    simp only [sizesB, Bool.and_eq_true] at h
    have hy := hp y List.mem_cons_self
    have e : y.length = s := by
      have := h.1
      simp at this
      rcases this with (h1 | h1) | h1
      · rw [h1] at hy; exact absurd hy (Nat.lt_irrefl 0)
      · omega
      · exact h1
    rcases List.mem_cons.mp hx with h1 | h1
    · rw [h1]; exact e
    · rw [e, Nat.max_self] at h
      exact ih s hs h.2 (fun z hz => hp z (List.mem_cons_of_mem _ hz)) x h1
theorem sizes_conv {l : List (List Int)} (h : sizesB 0 l = true) (hm : missL l = []) (i : Nat) (hi : i < l.length) : (row l i).length = (row l 0).length := by
  have hp : ∀ x ∈ l, 0 < x.length := fun x hx => by
    obtain ⟨j, hj, rfl⟩ := mem_row hx
    have := all_there (l := l) rfl (by rw [hm]; rfl) j hj
    unfold pres at this
    omega
  cases l with
  | nil => simp at hi
  | cons y l =>
    have h0 : row (y :: l) 0 = y := rfl
    rw [h0]
    simp only [sizesB, Bool.and_eq_true] at h
    have hy := hp y List.mem_cons_self
    rw [Nat.max_eq_right (Nat.zero_le _)] at h
    have hall := sizes_pos l y.length hy h.2 (fun z hz => hp z (List.mem_cons_of_mem _ hz))
    cases i with
    | zero => rfl
    | succ i =>
      have hi2 : i < l.length := by simpa using hi
      have e : row (y :: l) (i + 1) = l[i] := by simp [row, List.getD, hi2]
      rw [e]
      exact hall _ (List.getElem_mem hi2)
theorem Rows.append {W : World} {h1 h2 : List Hd} {l1 l2 : List (List Int)} (a : Rows W h1 l1) (b : Rows W h2 l2) : Rows W (h1 ++ h2) (l1 ++ l2) := by
  refine ⟨by rw [List.length_append, List.length_append, a.1, b.1], fun i x hx => ?_⟩
  rcases Nat.lt_or_ge i h1.length with hi | hi
  · rw [List.getElem?_append_left hi] at hx
    have e : row (l1 ++ l2) i = row l1 i := by
      unfold row
      rw [List.getD_eq_getElem?_getD, List.getElem?_append_left (by rw [← a.1]; exact hi), List.getD_eq_getElem?_getD]
    rw [e]
    exact a.2 i x hx
  · rw [List.getElem?_append_right hi] at hx
    have e : row (l1 ++ l2) i = row l2 (i - h1.length) := by
      unfold row
      rw [List.getD_eq_getElem?_getD, List.getElem?_append_right (by rw [← a.1]; exact hi), ← a.1, List.getD_eq_getElem?_getD]
    rw [e]
    exact b.2 _ x hx
theorem Rows.gone {W : World} {hs : List Hd} {l : List (List Int)} (h : Rows W hs l) (i : Nat) : Rows W (hs.set i (none, 0, 0)) (l.set i []) := by
  refine ⟨by rw [List.length_set, List.length_set]; exact h.1, fun q x hx => ?_⟩
  rw [List.getElem?_set] at hx
  have e : row (l.set i []) q = if i = q then [] else row l q := by
    unfold row
    rw [List.getD_eq_getElem?_getD, List.getElem?_set]
    by_cases e : i = q
    · subst e
      by_cases e2 : i < l.length <;> simp [e2]
    · rw [if_neg e, if_neg e, List.getD_eq_getElem?_getD]
  rw [e]
  by_cases e2 : i = q
  · rw [if_pos e2] at hx ⊢
    split at hx
    · obtain rfl := Option.some.inj hx
      exact ⟨rfl, Nat.le_refl _, KB_nil W⟩
    · cases hx
  · rw [if_neg e2] at hx ⊢
    exact h.2 q x hx
/-- A list of shards of which one is left out. -/
def goneL (l : List (List Int)) (i : Nat) : List (List Int) := l.set i []
theorem goneL_row {l : List (List Int)} {i : Nat} (hi : i < l.length) (q : Nat) : row (goneL l i) q = if q = i then [] else row l q := by
  unfold goneL row
  rw [List.getD_eq_getElem?_getD, List.getElem?_set]
  by_cases e : i = q
  · subst e; simp [hi]
  · rw [if_neg e, if_neg (fun h => e h.symm), List.getD_eq_getElem?_getD]
theorem goneL_ok {l : List (List Int)} {i : Nat} (h : okB l = true) : okB (goneL l i) = true := by
  unfold okB goneL at *
  rw [List.all_eq_true] at h ⊢
  intro r hr
  rcases List.mem_or_eq_of_mem_set hr with h1 | h1
  · exact h r h1
  · subst h1; rfl
end Go.Proofs.Ytjolnjckgoilpaa.Rs
end

section
/-
  Rebuild with at most two rows missing; what it tells of shards that are a code's.
-/
set_option linter.unusedVariables false
set_option linter.unusedSimpArgs false
namespace Go.Proofs.Ytjolnjckgoilpaa.Rs
open Go.RowKit Go.Proofs.YtjolnjckgoilpaaW.PrintWords Go.Proofs.YtjolnjckgoilpaaW.PrintLast Go.Proofs.YtjolnjckgoilpaaW.PrintMore Go.Proofs.Ytjolnjckgoilpaa.PRa Go.Proofs.Ytjolnjckgoilpaa.Gf
theorem some_row {l : List (List Int)} {n k q : Nat} (hq : q < (selN l n k).length) : row (someL l n k) q = row l (selN l n k)[q] := by
  unfold someL
  show ((selN l n k).map fun x => row l x).getD q [] = _
  rw [List.getD_eq_getElem?_getD, List.getElem?_map, List.getElem?_eq_getElem hq]
  rfl
theorem part_row' {l : List (List Int)} {n k q : Nat} (hq : q < (selN l n k).length) : row (partL l n k) q = row (allR k) (selN l n k)[q] := by
  unfold partL
  show ((selN l n k).map fun x => row (allR k) x).getD q [] = _
  rw [List.getD_eq_getElem?_getD, List.getElem?_map, List.getElem?_eq_getElem hq]
  rfl
theorem byt_isL {l : List (List Int)} {i m x : Nat} {f : Nat → Nat} (h : row l i = rowL m f) (hx : x < m) : byt l i x = f x := by
  unfold byt
  rw [h]
  simp [rowL, List.getD, hx]
theorem byt_allR {k i j : Nat} (hi : i < k + 2) (hj : j < k) : byt (allR k) i j = allN k i j := by
  unfold byt
  rw [row_allR hi]
  simp [List.getD, hj]
/-- Any row of a code, at a column. -/
theorem all_col {a : List (List Int)} {k m : Nat} (ha : a.length = k) (ok : okB a = true) {i x : Nat} (hi : i < k + 2) (hx : x < m) : byt (allL a k m) i x = mv k (allN k) (fun q => byt a q x) i := by
  have hb : ∀ q, byt a q x < 256 := fun q => (okB_at ok q x).1
  rcases Nat.lt_or_ge i k with h | h
  · have e : byt (allL a k m) i x = byt a i x := by unfold byt; rw [allL_row ha h]
    rw [e, ← mv_kron k (fun q => byt a q x) hb i h]
    refine Gf.sx_congr fun q _ => ?_
    unfold allN
    rw [if_pos h]
  · rcases Nat.eq_or_lt_of_le h with e | e
    · subst e
      rw [byt_isL (allL_row0 ha) hx]
      refine Gf.sx_congr fun q _ => ?_
      unfold allN rho
      rw [if_neg (by omega), if_pos rfl, Nat.zero_mul]
      rfl
    · obtain rfl : i = k + 1 := by omega
      rw [byt_isL (allL_row1 ha) hx]
      refine Gf.sx_congr fun q _ => ?_
      unfold allN rho
      rw [if_neg (by omega), if_neg (by omega), Nat.one_mul]
theorem mv_congr {n i : Nat} {a b : Nat → Nat → Nat} {x y : Nat → Nat} (ha : ∀ j, j < n → a i j = b i j) (hx : ∀ j, j < n → x j = y j) : mv n a x i = mv n b y i :=
  Gf.sx_congr fun q hq => by rw [ha q hq, hx q hq]
/-- The shards of a code that are missing are made again. -/
theorem reb_code {l a : List (List Int)} {n k m : Nat} (hl : l.length = n) (hn : n = k + 2) (hk : 1 ≤ k) (hm : (missL l).length ≤ 2) (ha : a.length = k) (ok : okB a = true) (hr : ∀ i, i < n → pres l i → row l i = row (allL a k m) i) (hlen : ∀ i, i < k → (row a i).length = m)
    (s : Nat → Nat → Nat) (hs : B8 s) (hinv : ∀ i j, i < k → j < k → mm k s (byt (partL l n k)) i j = kronN i j) {i : Nat} (hi : i < n) :
    rebL l n k m (fun i j => sx k fun q => GfM.M (allN k i q) (s q j)) i = row (allL a k m) i := by
  unfold rebL
  by_cases hp : pres l i
  · rw [if_pos hp]; exact hr i hi hp
  · rw [if_neg hp]
    have hsel := selN_len hl hn hm
    have hpb : B8 (byt (partL l n k)) := fun i j => (okB_at (ok_rows (allR_ok k) _) i j).1
    have hcol : ∀ x, x < m → tcol (fun j => sx k fun q => GfM.M (allN k i q) (s q j)) (someL l n k) k x = byt (allL a k m) i x := fun x hx => by
      have hb : ∀ q, byt a q x < 256 := fun q => (okB_at ok q x).1
      rw [all_col ha ok (by omega) hx]
      have e1 : tcol (fun j => sx k fun q => GfM.M (allN k i q) (s q j)) (someL l n k) k x = mv k (mm k (allN k) s) (mv k (byt (partL l n k)) fun q => byt a q x) i := by
        refine Gf.sx_congr fun q hq => ?_
        have hq2 : q < (selN l n k).length := by omega
        have hy := selN_lt (List.getElem_mem hq2)
        congr 1
        have e2 : byt (someL l n k) q x = byt (allL a k m) (selN l n k)[q] x := by
          unfold byt
          rw [some_row hq2, hr _ hy.1 hy.2]
        rw [e2, all_col ha ok (by omega) hx]
        refine Gf.sx_congr fun j hj => ?_
        congr 1
        rw [← byt_allR (k := k) (i := (selN l n k)[q]) (by omega) hj]
        unfold byt
        rw [part_row' hq2]
      rw [e1, mm_mv k (allN k) s _ (allN_lt k) hs (fun q => mv_lt hpb q) i]
      refine mv_congr (fun _ _ => rfl) fun j hj => ?_
      rw [← mm_mv k s (byt (partL l n k)) _ hs hpb hb j]
      refine (mv_congr (b := kronN) (y := fun q => byt a q x) (fun c hc => hinv j c hj hc) (fun _ _ => rfl)).trans ?_
      exact mv_kron k (fun q => byt a q x) hb j hj
    have hrl := allL_lens (m := m) ha hlen i (by omega)
    refine List.ext_getElem (by rw [rowL_length, hrl]) fun x h1 h2 => ?_
    rw [rowL_length] at h1
    have e3 : (rowL m (tcol (fun j => sx k fun q => GfM.M (allN k i q) (s q j)) (someL l n k) k))[x] = ((byt (allL a k m) i x : Nat) : Int) := by
      rw [← hcol x h1]
      simp [rowL]
    rw [e3, ← (okB_at (allL_ok (k := k) (m := m) ok) i x).2]
    simp [List.getD, h2]
/-- At most two rows are missing: all are told; they are the code's where what is there is the code's. -/
theorem rebuild_few (w : World) (g k : Nat) (hc : CodeAt w g k) (hk : 1 ≤ k) (hk2 : k ≤ 32) (B : Option Addr) (d : Nat) (l : List (List Int)) (n : Nat) (hL : KR.C w B n l) (hn : n = k + 2) (hd : n ≤ d) (m : Nat) (hm0 : 0 < m) (hm9 : m ≤ 1000000) (hok : okB l = true) (hm : ∀ i, i < n → (row l i).length = 0 ∨ (row l i).length = m) (hlost : (missL l).length ≤ 2) :
    ∃ L : Nat → List Int, (∀ a : List (List Int), a.length = k → okB a = true → (∀ i, i < k → (row a i).length = m) → (∀ i, i < n → pres l i → row l i = row (allL a k m) i) → ∀ i, i < n → L i = row (allL a k m) i) ∧ Calls Try.prog 12 #[.pointer (some ⟨g, 0, none⟩), .slice B n d] w (RebQ w n m L) := by
  have hl : l.length = n := Kd.C_len hL
  obtain ⟨s, g1, g2, g3, g4⟩ := reb_plain hl hn hk hk2 hlost
  refine ⟨_, fun a ha oka hla hr i hi => reb_code hl hn hk hlost ha oka hr hla s.2 g1 g2 hi, ?_⟩
  exact rebuild12 w g k hc hk hk2 B d l n hL hn hd m hm0 hm9 hok (fun i hi hp => (hm i hi).resolve_left hp) (sizes_some m l 0 (.inl rfl) (fun x hx => by obtain ⟨i, hi, rfl⟩ := mem_row hx; exact hm i (by omega))) hlost _ g3 (fun i j => sx k fun q => GfM.M (allN k i q) (s.2 q j)) (fun i q => sx_lt _ _ fun r _ => GfM.M_lt _ _ (allN_lt k i r)) (by rw [matrix_length]) (fun i hi _ => g4 i hi)
/-- How many rows are missing: no more than there are numbers that could be. -/
theorem miss_le {l : List (List Int)} {n : Nat} (hl : l.length = n) (S : List Nat) (h : ∀ i, i < n → ¬ pres l i → i ∈ S) : (missL l).length ≤ S.length := by
  rw [missL_eq hl, List.length_map]
  have nd : (missN l n).Nodup := List.Nodup.sublist List.filter_sublist List.nodup_range'
  exact nd.length_le_of_subset fun x hx => by
    have := missN_mem.mp hx
    exact h x this.1 this.2
theorem miss_ge {l : List (List Int)} {n : Nat} (hl : l.length = n) (S : List Nat) (nd : S.Nodup) (h : ∀ i, i ∈ S → i < n ∧ ¬ pres l i) : S.length ≤ (missL l).length := by
  rw [missL_eq hl, List.length_map]
  exact nd.length_le_of_subset fun x hx => missN_mem.mpr (h x hx)
end Go.Proofs.Ytjolnjckgoilpaa.Rs
end

section
/-
  Same of a list and itself; what Rebuild's rows are told of a base that is older.
-/
set_option linter.unusedVariables false
set_option linter.unusedSimpArgs false
namespace Go.Proofs.Ytjolnjckgoilpaa.Rs
open Go.RowKit Go.Proofs.YtjolnjckgoilpaaW.PrintWords Go.Proofs.YtjolnjckgoilpaaW.PrintLast Go.Proofs.YtjolnjckgoilpaaW.PrintMore Go.Proofs.Ytjolnjckgoilpaa.PRa Go.Proofs.Ytjolnjckgoilpaa.Gf
theorem same_l0 (l : List (List Int)) (hl : l.length ≤ 1048576) : ∀ (d k i : Nat), d + i = l.length → d < k → flintlaw5_Same.l0 k l l i = some true := by
  intro d
  induction d with
  | zero =>
    intro k i hd hk
    obtain ⟨k, rfl⟩ : ∃ m, k = m + 1 := ⟨k - 1, by omega⟩
    simp only [flintlaw5_Same.l0]
    rw [if_neg (by omega)]
  | succ d ih =>
    intro k i hd hk
    obtain ⟨k, rfl⟩ : ∃ m, k = m + 1 := ⟨k - 1, by omega⟩
    simp only [flintlaw5_Same.l0]
    rw [if_pos (by omega), if_pos (by omega), if_pos (by omega), if_pos trivial]
    have w3 : wrap64 ((i : Int) + 1) = ((i + 1 : Nat) : Int) := by unfold wrap64; omega
    rw [w3]
    exact ih k (i + 1) (by omega) (by omega)
theorem same_refl (k : Nat) (l : List (List Int)) (hl : l.length ≤ 1048576) (hk : l.length + 2 ≤ k) : flintlaw5_Same.f k l l = some true := by
  unfold flintlaw5_Same.f
  have := same_l0 l hl l.length k 0 (by omega) (by omega)
  simpa using this
theorem same13 (w : World) (n : Nat) (A0 A1 : Option Addr) (c0 c1 : Nat) (l : List (List Int)) (h0 : KR.C w A0 n l) (h1 : KR.C w A1 n l) (hc0 : n ≤ c0) (hc1 : n ≤ c1) (hn : n ≤ 1048576) :
    Calls Try.prog 13 #[.slice A0 n c0, .slice A1 n c1] w fun e w' => e = .returned (.bool true) ∧ Below w.heap.size w w' := by
  have hl := Kd.C_len h0
  subst hl
  refine (flintlaw5_Same.calls (l.length + 2) A0 c0 l A1 c1 l true w h0 hc0 h1 hc1 (same_refl _ l hn (Nat.le_refl _))).mono ?_
  rintro e w' ⟨rfl, hd⟩
  exact ⟨rfl, hd.below⟩
/-- Rebuild's answer, told of an older world. -/
def RebO (w0 : World) (n m : Nat) (L : Nat → List Int) (e : Ending) (w' : World) : Prop := ∃ ob cap hs, e = .returned (.tuple #[.slice (some ⟨ob, 0, none⟩) n cap, .int .i64 0]) ∧ n ≤ cap ∧ KH.R 25 w' w0.heap.size (fun _ => True) (.slice (some ⟨ob, 0, none⟩) n cap) hs ∧ Outs w' w0.heap.size n m (fun _ => True) hs L ∧ Below w0.heap.size w0 w'
theorem RebQ.old {w0 w w' : World} {n m : Nat} {L : Nat → List Int} {e : Ending} (h : RebQ w n m L e w') (hb : Below w0.heap.size w0 w) : RebO w0 n m L e w' := by
  obtain ⟨ob, cap, hs, rfl, h1, h2, h3⟩ := h
  refine ⟨ob, cap, hs, rfl, (Kd.R_reads' h1).2.1, Kd.R_lower h1 hb.size, ⟨h2.len, fun i hi hp => ?_, h2.inj⟩, below_then hb hb.size h3⟩
  obtain ⟨b, c, q1, q2, q3, q4⟩ := h2.rows i hi hp
  exact ⟨b, c, q1, q2, q3, Kd.R_lower q4 hb.size⟩
/-- The headers of Rebuild's rows, in memory. -/
theorem outs_head {W : World} {base base' n m i ob cap : Nat} {hs : List Hd} {L : Nat → List Int} (h : Outs W base n m (fun _ => True) hs L) (hH : KH.R 25 W base' (fun _ => True) (.slice (some ⟨ob, 0, none⟩) n cap) hs) (hi : i < n) : ∃ b c, W.cell? ⟨ob, i, none⟩ = some (.slice (some ⟨b, 0, none⟩) m c) ∧ hs[i]? = some (some ⟨b, 0, none⟩, m, c) ∧ base ≤ b := by
  obtain ⟨b, c, h1, h2, h3, h4⟩ := h.rows i hi trivial
  have hC := (Kd.R_reads' hH).2.2
  rw [h.len] at hC
  have := KH_atA hC hi h1
  rw [Addr.add_mid, Nat.zero_add] at this
  exact ⟨b, c, this, h1, Kd.R_base h4 b rfl⟩
/-- One byte of one of Rebuild's rows is written. -/
theorem outs_write {w W : World} {base n m i j b c ob cap : Nat} {hs : List Hd} {L : Nat → List Int} (h : Outs W base n m (fun _ => True) hs L) (hH : KH.R 25 W base (fun _ => True) (.slice (some ⟨ob, 0, none⟩) n cap) hs) (hb : Below w.heap.size w W) (hi : i < n) (hx : hs[i]? = some (some ⟨b, 0, none⟩, m, c)) (hbb : w.heap.size ≤ b) (v : Int) :
    (∃ L', Outs (W.setCell ⟨b, j, none⟩ (.int .u8 v)) base n m (fun _ => True) hs L') ∧ KH.R 25 (W.setCell ⟨b, j, none⟩ (.int .u8 v)) base (fun _ => True) (.slice (some ⟨ob, 0, none⟩) n cap) hs ∧ Below w.heap.size w (W.setCell ⟨b, j, none⟩ (.int .u8 v)) := by
  refine ⟨⟨_, h.write hi hx v⟩, ?_, below_set hb hbb⟩
  obtain ⟨b', c', h1, h2, h3, h4⟩ := h.rows i hi trivial
  rw [hx] at h1
  obtain ⟨rfl, rfl⟩ : b = b' ∧ c = c' := by
    have := Option.some.inj h1
    simp only [Prod.mk.injEq, Option.some.injEq, Addr.mk.injEq] at this
    exact ⟨this.1.1, this.2.2⟩
  have hB : ∃ cells, W.heap[b]? = some (.cells cells 5 (0, 0)) := Kd.R_typed h4 b rfl
  obtain ⟨cells, hB⟩ := hB
  exact Kd.R_set hH hB (by simp [KH, Kd.scalar]) j _
/-- Rebuild's rows, in memory, newer than a world. -/
def Ow (w W : World) (n m ob cap : Nat) (hs : List Hd) : Prop := ∃ L, Outs W w.heap.size n m (fun _ => True) hs L ∧ KH.R 25 W w.heap.size (fun _ => True) (.slice (some ⟨ob, 0, none⟩) n cap) hs ∧ Below w.heap.size w W
theorem Ow.move {w W W1 : World} {n m ob cap : Nat} {hs : List Hd} (h : Ow w W n m ob cap hs) (hb : Below W.heap.size W W1) : Ow w W1 n m ob cap hs := by
  obtain ⟨L, h1, h2, h3⟩ := h
  exact ⟨L, h1.below hb, Kd.R_below h2 hb, below_then h3 h3.size hb⟩
theorem Ow.drew {w W : World} {n m ob cap : Nat} {hs : List Hd} (h : Ow w W n m ob cap hs) : Ow w W.drew n m ob cap hs := h.move (below_drew (Below.refl _ _))
theorem Ow.drewN {w W : World} {n m ob cap : Nat} {hs : List Hd} (h : Ow w W n m ob cap hs) (k : Nat) : Ow w (W.drewN k) n m ob cap hs := h.move (pw_below_drewN (Below.refl _ _) _)
theorem Ow.head {w W : World} {n m ob cap i : Nat} {hs : List Hd} (h : Ow w W n m ob cap hs) (hi : i < n) : ∃ b c, W.cell? ⟨ob, i, none⟩ = some (.slice (some ⟨b, 0, none⟩) m c) := by
  obtain ⟨L, h1, h2, h3⟩ := h
  obtain ⟨b, c, q, _⟩ := outs_head h1 h2 hi
  exact ⟨b, c, q⟩
theorem Ow.cell {w W : World} {n m ob cap i j : Nat} {hs : List Hd} (h : Ow w W n m ob cap hs) (hi : i < n) (hj : j < m) : ∃ b c v, W.cell? ⟨ob, i, none⟩ = some (.slice (some ⟨b, 0, none⟩) m c) ∧ W.cell? ⟨b, j, none⟩ = some (.int .u8 v) ∧ W.frozen? ⟨b, j, none⟩ = false ∧ ∀ y : Int, Ow w (W.setCell ⟨b, j, none⟩ (.int .u8 y)) n m ob cap hs := by
  obtain ⟨L, h1, h2, h3⟩ := h
  obtain ⟨b, c, q1, q2, q3⟩ := outs_head h1 h2 hi
  obtain ⟨b', c', e1, e2, e3, e4⟩ := h1.cell hi hj
  rw [q2] at e1
  obtain ⟨rfl, rfl⟩ : b = b' ∧ c = c' := by
    have := Option.some.inj e1
    simp only [Prod.mk.injEq, Option.some.injEq, Addr.mk.injEq] at this
    exact ⟨this.1.1, this.2.2⟩
  refine ⟨b, c, _, q1, e3, e4, fun y => ?_⟩
  obtain ⟨⟨L', g1⟩, g2, g3⟩ := outs_write (j := j) h1 h2 h3 hi q2 q3 y
  exact ⟨L', g1, g2, g3⟩
end Go.Proofs.Ytjolnjckgoilpaa.Rs
end
