/-
  Slices of rows, as slices of headers; the rows apart.
-/
import Derived.Test.YtjolnjckgoilpaaRsChk
set_option linter.unusedVariables false
set_option linter.unusedSimpArgs false
namespace Go.Proofs.Ytjolnjckgoilpaa.Rs
open Go.RowKit Go.Proofs.YtjolnjckgoilpaaW.PrintWords Go.Proofs.YtjolnjckgoilpaaW.PrintLast Go.Proofs.YtjolnjckgoilpaaW.PrintMore Go.Proofs.Ytjolnjckgoilpaa.PRa Go.Proofs.Ytjolnjckgoilpaa.Gf
/-- A row's header: where it lies, how long it is, its room. -/
abbrev Hd := Option Addr × Nat × Nat
def KH : Kd Hd := Kd.scalar (fun x => Value.slice x.1 x.2.1 x.2.2) (fun _ => rfl)
/-- The headers' rows. -/
def Rows (W : World) (hs : List Hd) (l : List (List Int)) : Prop := hs.length = l.length ∧ ∀ (i : Nat) (x : Hd), hs[i]? = some x → x.2.1 = (row l i).length ∧ x.2.1 ≤ x.2.2 ∧ KB.C W x.1 x.2.1 (row l i)
theorem Rows.below {W W1 : World} {hs : List Hd} {l : List (List Int)} (h : Rows W hs l) (hb : Below W.heap.size W W1) : Rows W1 hs l := ⟨h.1, fun i x hx => ⟨(h.2 i x hx).1, (h.2 i x hx).2.1, Kd.C_below (h.2 i x hx).2.2 hb⟩⟩
theorem KR_of_KH {W : World} {A : Option Addr} {n : Nat} {hs : List Hd} {l : List (List Int)} (h : KH.C W A n hs) (hr : Rows W hs l) : KR.C W A n l := by
  obtain ⟨h1, h2, h3⟩ := h
  refine ⟨by rw [← hr.1]; exact h1, h2, fun hn => ?_⟩
  obtain ⟨ad, e, hc⟩ := h3 hn
  refine ⟨ad, e, fun j p hj => ?_⟩
  obtain ⟨hjl, hp⟩ := List.getElem?_eq_some_iff.1 hj
  have hjh : j < hs.length := by rw [hr.1]; exact hjl
  obtain ⟨c, hs1, hs2, hs3⟩ := hc j _ (List.getElem?_eq_getElem hjh)
  have he : row l j = p := by unfold row; rw [List.getD_eq_getElem?_getD, hj]; rfl
  obtain ⟨q1, q2, q3⟩ := hr.2 j _ (List.getElem?_eq_getElem hjh)
  rw [he] at q1 q3
  have hc2 : c = [Value.slice hs[j].1 hs[j].2.1 hs[j].2.2] := hs2
  refine ⟨c, hs1, ⟨hs[j].1, hs[j].2.2, ?_, by rw [← q1]; exact q2, by rw [← q1]; exact q3⟩, hs3⟩
  rw [hc2, q1]
/-- The rows of a list have headers. -/
theorem KH_of_KR {W : World} {A : Option Addr} {n : Nat} {l : List (List Int)} (h : KR.C W A n l) : ∃ hs, KH.C W A n hs ∧ Rows W hs l := by
  have hl := Kd.C_len h
  have hx : ∀ i, ∃ x : Hd, i < n → ∃ ad, A = some ad ∧ W.cell? (ad.add i) = some (.slice x.1 x.2.1 x.2.2) ∧ x.2.1 = (row l i).length ∧ x.2.1 ≤ x.2.2 ∧ KB.C W x.1 x.2.1 (row l i) := fun i => by
    by_cases hi : i < n
    · obtain ⟨ad, A', c', e, hc, hle, hK⟩ := rows_at h hi
      exact ⟨(A', (row l i).length, c'), fun _ => ⟨ad, e, hc, rfl, hle, hK⟩⟩
    · exact ⟨(none, 0, 0), fun h => absurd h hi⟩
  refine ⟨(List.range n).map fun i => (hx i).choose, ⟨by simp, h.2.1, fun hn => ?_⟩, ⟨by simp [hl], fun i x hi => ?_⟩⟩
  · obtain ⟨ad, e, _⟩ := (hx 0).choose_spec hn
    refine ⟨ad, e, fun j p hj => ?_⟩
    obtain ⟨hjl, hp⟩ := List.getElem?_eq_some_iff.1 hj
    have hjn : j < n := by simpa using hjl
    obtain ⟨ad', e', hc, _⟩ := (hx j).choose_spec hjn
    obtain rfl : ad = ad' := by rw [e] at e'; injection e'
    have hp2 : (hx j).choose = p := by simpa [hjn] using hj
    subst hp2
    refine ⟨_, rfl, rfl, fun i u hu => ?_⟩
    cases i with
    | zero =>
      have hu2 := Option.some.inj hu
      rw [← hu2, show j * KH.sz + 0 = j by simp [KH, Kd.scalar]]
      exact hc
    | succ i => simp at hu
  · have hin : i < n := by
      have := (List.getElem?_eq_some_iff.1 hi).1
      simpa using this
    have hx2 : (hx i).choose = x := by simpa [hin] using hi
    obtain ⟨_, _, _, h1, h2, h3⟩ := (hx i).choose_spec hin
    rw [hx2] at h1 h2 h3
    exact ⟨h1, h2, h3⟩
theorem R_bytes_ok {W : World} {base e : Nat} {ok ok' : Nat → Prop} {v : Value} {xs : List Int} (h : KB.R e W base ok v xs) (hk : ∀ k, v.ownBlock = some k → ok' k) : KB.R e W base ok' v xs := ⟨hk, h.2.imp_ (fun _ _ hp => hp)⟩
/-- Rows of one length, each in a block of its own. -/
structure Lay (w W : World) (n m : Nat) (b c : Nat → Nat) (l : List (List Int)) : Prop where
  len : l.length = n
  rows : ∀ i, i < n → m ≤ c i ∧ (row l i).length = m ∧ KB.R 5 W w.heap.size (fun _ => True) (.slice (some ⟨b i, 0, none⟩) m (c i)) (row l i)
  inj : ∀ i j, i < n → j < n → b i = b j → i = j
def hdrs (n m : Nat) (b c : Nat → Nat) : List Hd := (List.range n).map fun i => (some ⟨b i, 0, none⟩, m, c i)
theorem hdrs_length (n m : Nat) (b c : Nat → Nat) : (hdrs n m b c).length = n := by simp [hdrs]
theorem hdrs_at {n m i : Nat} {b c : Nat → Nat} (h : i < n) : (hdrs n m b c)[i]? = some (some ⟨b i, 0, none⟩, m, c i) := by simp [hdrs, h]
theorem hdrs_succ (n m : Nat) (b c : Nat → Nat) : hdrs (n + 1) m b c = hdrs n m b c ++ [(some ⟨b n, 0, none⟩, m, c n)] := by simp [hdrs, List.range_succ]
theorem hdrs_congr {n m : Nat} {b c b' c' : Nat → Nat} (h : ∀ i, i < n → b i = b' i ∧ c i = c' i) : hdrs n m b c = hdrs n m b' c' := by
  unfold hdrs
  apply List.map_congr_left
  intro i hi
  have := h i (by simpa using hi)
  rw [this.1, this.2]
theorem Lay.toRows {w W : World} {n m : Nat} {b c : Nat → Nat} {l : List (List Int)} (h : Lay w W n m b c l) : Rows W (hdrs n m b c) l := by
  refine ⟨by rw [hdrs_length, h.len], fun i x hx => ?_⟩
  have hi : i < n := by
    have := (List.getElem?_eq_some_iff.1 hx).1
    rwa [hdrs_length] at this
  rw [hdrs_at hi] at hx
  obtain rfl := Option.some.inj hx
  obtain ⟨h1, h2, h3⟩ := h.rows i hi
  refine ⟨h2.symm, h1, ?_⟩
  have := (Kd.R_reads' (n := m) h3).2.2
  rw [h2] at this
  exact this
theorem Lay.below {w W W1 : World} {n m : Nat} {b c : Nat → Nat} {l : List (List Int)} (h : Lay w W n m b c l) (hb : Below W.heap.size W W1) : Lay w W1 n m b c l := ⟨h.len, fun i hi => ⟨(h.rows i hi).1, (h.rows i hi).2.1, Kd.R_below (h.rows i hi).2.2 hb⟩, h.inj⟩
theorem Lay.over {w W W1 : World} {n m base : Nat} {b c : Nat → Nat} {l : List (List Int)} {v : Value} {hs : List Hd} {ok : Nat → Prop} (h : Lay w W n m b c l) (hv : KH.R 25 W base ok v hs) (hg : W.grownBy W1 v.ownBlock) : Lay w W1 n m b c l :=
  ⟨h.len, fun i hi => ⟨(h.rows i hi).1, (h.rows i hi).2.1, Kd.R_over (h.rows i hi).2.2 hv (by simp [KB, Kd.int, Kd.scalar]) hg⟩, h.inj⟩
theorem Lay.block {w W : World} {n m : Nat} {b c : Nat → Nat} {l : List (List Int)} (h : Lay w W n m b c l) {i : Nat} (hi : i < n) : w.heap.size ≤ b i ∧ b i < W.heap.size ∧ ∃ cells, W.heap[b i]? = some (.cells cells 5 (0, 0)) := by
  have hr := (h.rows i hi).2.2
  have hob : (Value.slice (some ⟨b i, 0, none⟩) m (c i)).ownBlock = some (b i) := by simp [Value.ownBlock]
  exact ⟨Kd.R_base hr _ hob, Kd.R_lt hr _ hob, Kd.R_typed hr _ hob⟩
/-- One byte of one row is written. -/
theorem Lay.put {w W : World} {n m : Nat} {b c : Nat → Nat} {l : List (List Int)} (h : Lay w W n m b c l) {i : Nat} (hi : i < n) (j : Nat) (v : Int) :
    Lay w (W.setCell ⟨b i, j, none⟩ (.int .u8 v)) n m b c (l.set i ((row l i).set j v)) := by
  have hrow : ∀ q, q < n → row (l.set i ((row l i).set j v)) q = if q = i then (row l i).set j v else row l q := fun q hq => by
    unfold row
    rw [List.getD_eq_getElem?_getD, List.getElem?_set]
    by_cases e : i = q
    · subst e
      have : i < l.length := by rw [h.len]; exact hi
      simp [this]
    · rw [if_neg e, if_neg (fun h => e h.symm), List.getD_eq_getElem?_getD]
  refine ⟨by rw [List.length_set, h.len], fun q hq => ?_, h.inj⟩
  obtain ⟨h1, h2, h3⟩ := h.rows q hq
  rw [hrow q hq]
  by_cases e : q = i
  · subst e
    rw [if_pos rfl, List.length_set]
    refine ⟨h1, h2, ?_⟩
    have h4 : KB.R 5 W w.heap.size (fun _ => True) (.slice (some ⟨b q, 0, none⟩) (row l q).length (c q)) (row l q) := by rw [h2]; exact h3
    have h5 := Kd.R_put h4 (j : Int) v
    rw [Int.toNat_natCast, h2] at h5
    exact h5.1
  · rw [if_neg e]
    refine ⟨h1, h2, ?_⟩
    have h4 : KB.R 5 W w.heap.size (fun k => k = b q) (.slice (some ⟨b q, 0, none⟩) m (c q)) (row l q) := R_bytes_ok h3 (fun k hk => by simpa [Value.ownBlock, eq_comm] using hk)
    have h5 := Kd.R_far (p := ⟨b i, j, none⟩) h4 (fun k hk hk2 => e (h.inj q i hq hi (by rw [← hk]; exact hk2))) (.int .u8 v)
    exact Kd.R_mono h5 (fun _ _ => trivial)
theorem Lay.cell {w W : World} {n m : Nat} {b c : Nat → Nat} {l : List (List Int)} (h : Lay w W n m b c l) {i j : Nat} (hi : i < n) (hj : j < m) (ok : okB l = true) : W.cell? ⟨b i, j, none⟩ = some (.int .u8 ((byt l i j : Nat) : Int)) ∧ W.frozen? ⟨b i, j, none⟩ = false := by
  obtain ⟨h1, h2, h3⟩ := h.rows i hi
  have h4 : KB.R 5 W w.heap.size (fun _ => True) (.slice (some ⟨b i, 0, none⟩) (row l i).length (c i)) (row l i) := by rw [h2]; exact h3
  have h5 := Kd.R_cell (0 : Int) h4 (j : Int) (by omega) (by omega)
  rw [Int.toNat_natCast] at h5
  refine ⟨?_, h5.2⟩
  rw [h5.1]
  show some (Value.int .u8 (rdOf 0 (row l i) (j : Int))) = _
  unfold rdOf
  rw [Int.toNat_natCast, (okB_at ok i j).2]
/-- A row more, in a block that is new. -/
theorem Lay.snoc {w W : World} {n m B C : Nat} {b c : Nat → Nat} {l : List (List Int)} {x : List Int} (h : Lay w W n m b c l) (hx : x.length = m) (hC : m ≤ C) (hR : KB.R 5 W w.heap.size (fun _ => True) (.slice (some ⟨B, 0, none⟩) m C) x) (hnew : ∀ i, i < n → b i ≠ B) :
    Lay w W (n + 1) m (fun q => if q = n then B else b q) (fun q => if q = n then C else c q) (l ++ [x]) := by
  have hrow : ∀ q, q < n → row (l ++ [x]) q = row l q := fun q hq => by
    unfold row
    rw [List.getD_eq_getElem?_getD, List.getElem?_append_left (by rw [h.len]; exact hq), List.getD_eq_getElem?_getD]
  have hlast : row (l ++ [x]) n = x := by
    unfold row
    rw [List.getD_eq_getElem?_getD, List.getElem?_append_right (by rw [h.len]; exact Nat.le_refl _), h.len]
    simp
  refine ⟨by simp [h.len], fun i hi => ?_, fun i j hi hj e => ?_⟩
  · by_cases e : i = n
    · subst e
      simp only [if_pos]
      rw [hlast]
      exact ⟨hC, hx, hR⟩
    · simp only [if_neg e]
      rw [hrow i (by omega)]
      exact h.rows i (by omega)
  · by_cases e1 : i = n <;> by_cases e2 : j = n
    · omega
    · rw [if_pos e1, if_neg e2] at e
      exact absurd e.symm (hnew j (by omega))
    · rw [if_neg e1, if_pos e2] at e
      exact absurd e (hnew i (by omega))
    · rw [if_neg e1, if_neg e2] at e
      exact h.inj i j (by omega) (by omega) e
theorem Lay.nil (w W : World) (m : Nat) (b c : Nat → Nat) : Lay w W 0 m b c [] := ⟨rfl, fun i hi => absurd hi (Nat.not_lt_zero _), fun i j hi => absurd hi (Nat.not_lt_zero _)⟩
end Go.Proofs.Ytjolnjckgoilpaa.Rs
