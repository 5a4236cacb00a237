/- Several texts of this session laid together: SgWs, SgWt, SgWr. -/
import Derived.Test.YtjnicooboiijgaaMWa
import Derived.Test.YtjnicooboiijgaaMSc
section
/-
  Both writers side by side.
-/
set_option linter.unusedVariables false
set_option linter.unusedSimpArgs false
namespace Go.Proofs.Ytjnicooboiijgaa.Sg
open Go.RowKit Go.Proofs.YtjnicooboiijgaaW.PrintWords Go.Proofs.YtjnicooboiijgaaW.PrintLast Go.Proofs.YtjnicooboiijgaaW.PrintMore Go.Proofs.Ytjnicooboiijgaa.PSg Go.Proofs.Ytjnicooboiijgaa.Gf Go.Proofs.Ytjnicooboiijgaa.Rs
/-- A row whose things are told by their headers. -/
theorem KS_of_KH {α : Type} {d : Kd α} {e : TypeId} {W : World} {A : Option Addr} {n : Nat} {hs : List Hd} {l : List (List α)} (h : KH.C W A n hs) (hl : hs.length = l.length) (hr : ∀ (i : Nat) (x : Hd) (p : List α), hs[i]? = some x → l[i]? = some p → x.2.1 = p.length ∧ x.2.1 ≤ x.2.2 ∧ d.C W x.1 p.length p) : (Kd.slice e d).C W A n l := by
  obtain ⟨h1, h2, h3⟩ := h
  refine ⟨by rw [← hl]; exact h1, h2, fun hn => ?_⟩
  obtain ⟨ad, ea, hc⟩ := h3 hn
  refine ⟨ad, ea, fun j p hj => ?_⟩
  obtain ⟨hjl, hp⟩ := List.getElem?_eq_some_iff.1 hj
  have hjh : j < hs.length := by rw [hl]; exact hjl
  obtain ⟨c, hs1, hs2, hs3⟩ := hc j _ (List.getElem?_eq_getElem hjh)
  obtain ⟨q1, q2, q3⟩ := hr j _ p (List.getElem?_eq_getElem hjh) hj
  have hc2 : c = [Value.slice hs[j].1 hs[j].2.1 hs[j].2.2] := hs2
  refine ⟨c, hs1, ⟨hs[j].1, hs[j].2.2, ?_, by rw [← q1]; exact q2, q3⟩, hs3⟩
  rw [hc2, q1]
/-- Rows of rows of pages, to be read. -/
def Told (W : World) (v : Value) (P : List (List (List Int))) : Prop := ∃ A c, v = .slice A P.length c ∧ P.length ≤ c ∧ Kd.C (Kd.slice 37 (Kd.slice 5 (Kd.int .u8))) W A P.length P
theorem Told.nil (W : World) : Told W (.slice none 0 0) [] := ⟨none, 0, rfl, Nat.le_refl _, ⟨rfl, by simp, fun h => absurd h (Nat.lt_irrefl 0)⟩⟩
theorem Told.below {W W1 : World} {v : Value} {P : List (List (List Int))} (h : Told W v P) (hb : Below W.heap.size W W1) : Told W1 v P := by
  obtain ⟨A, c, h1, h2, h3⟩ := h
  exact ⟨A, c, h1, h2, Kd.C_below h3 hb⟩
theorem getD_of {α : Type} {P : List α} {i : Nat} {p d : α} (h : P[i]? = some p) : P.getD i d = p := by rw [List.getD_eq_getElem?_getD, h]; rfl
theorem told_P {W : World} {base b2 : Nat} {ok : Nat → Prop} {v : Value} {hds : List Hd} {P : List (List (List Int))} (h : KH.R 51 W base ok v hds) (hO : OwnP W b2 hds P) : Told W v P := by
  obtain ⟨A, c, rfl, hc, hC⟩ := Kd.R_reads h
  rw [hO.len] at hC hc ⊢
  refine ⟨A, c, rfl, hc, KS_of_KH hC hO.len fun i x p hx hp => ?_⟩
  obtain ⟨hs, h1, h2, h3⟩ := hO.rows i x hx
  have e : P.getD i [] = p := getD_of hp
  rw [e] at h3
  have hl := h3.len
  have h4 := (Kd.R_reads' h2)
  refine ⟨by rw [h1, hl], h4.2.1, ?_⟩
  rw [← hl]
  refine KS_of_KH h4.2.2 hl fun j y r hy hr => ?_
  obtain ⟨g1, g2, g3⟩ := h3.rows j y hy
  have er : Gf.row p j = r := getD_of hr
  rw [er] at g1 g3
  have := (Kd.R_reads' g3).2.2
  exact ⟨g1, g2, this⟩
theorem told_N {W : World} {base b2 : Nat} {ok : Nat → Prop} {v u : Value} {hds : List Hd} {P : List (List (List Int))} (h : KH.R 51 W base ok v hds) (hO : OutN W b2 u hds P) : Told W v P := by
  obtain ⟨A, c, rfl, hc, hC⟩ := Kd.R_reads h
  rw [hO.len] at hC hc ⊢
  refine ⟨A, c, rfl, hc, KS_of_KH hC hO.len fun i x p hx hp => ?_⟩
  obtain ⟨g1, g2⟩ := hO.rows i x hx
  have e : P.getD i [] = p := getD_of hp
  rw [e] at g1 g2
  have h4 := Kd.N_reads' g2
  exact ⟨g1, h4.2.1, h4.2.2⟩
theorem pages_l0g (L : List (List Int)) (hL : L.length ≤ 1000) : ∀ (d i K : Nat), i + d = L.length → d < K → flintlaw9_pages.l0 K L L (i : Int) = some true := by
  intro d
  induction d with
  | zero =>
    intro i K hi hK
    obtain ⟨K, rfl⟩ : ∃ q, K = q + 1 := ⟨K - 1, by omega⟩
    unfold flintlaw9_pages.l0
    rw [if_neg (by omega)]
  | succ d ih =>
    intro i K hi hK
    obtain ⟨K, rfl⟩ : ∃ q, K = q + 1 := ⟨K - 1, by omega⟩
    unfold flintlaw9_pages.l0
    rw [if_pos (by omega), if_pos (by omega), if_pos (by omega), if_pos rfl]
    have e : wrap64 ((i : Int) + 1) = ((i + 1 : Nat) : Int) := by unfold wrap64; omega
    rw [e]
    exact ih (i + 1) K (by omega) (by omega)
theorem pages_selfg (L : List (List Int)) (hL : L.length ≤ 1000) {K : Nat} (hK : 1000 < K) : flintlaw9_pages.f K L L = some true := by
  unfold flintlaw9_pages.f
  rw [if_pos rfl]
  exact pages_l0g L hL L.length 0 K (by omega) (by omega)
theorem rows_l0 (P : List (List (List Int))) (hP : P.length ≤ 5000000) (hL : ∀ i, i < P.length → (P.getD i []).length ≤ 1000) : ∀ (d i : Nat), i + d = P.length → flintlaw9_rows.l0 (d + 1001) P P (i : Int) = some true := by
  intro d
  induction d with
  | zero =>
    intro i hi
    unfold flintlaw9_rows.l0
    rw [if_neg (by omega)]
  | succ d ih =>
    intro i hi
    rw [show d + 1 + 1001 = (d + 1001) + 1 by omega]
    unfold flintlaw9_rows.l0
    have e5 : rd_L5 P (i : Int) = P.getD i [] := rfl
    rw [if_pos (by omega), if_pos (by omega), if_pos (by omega), e5, pages_selfg _ (hL i (by omega)) (by omega), Option.bind_some, if_pos rfl]
    have e : wrap64 ((i : Int) + 1) = ((i + 1 : Nat) : Int) := by unfold wrap64; omega
    rw [e]
    exact ih (i + 1) (by omega)
theorem rows14 (W : World) (P : List (List (List Int))) (hP : P.length ≤ 5000000) (hL : ∀ i, i < P.length → (P.getD i []).length ≤ 1000) {v0 v1 : Value} (h0 : Told W v0 P) (h1 : Told W v1 P) :
    Calls Try.prog 14 #[v0, v1] W fun e w' => e = .returned (.bool true) ∧ Below W.heap.size W w' := by
  obtain ⟨A0, c0, rfl, k0, C0⟩ := h0
  obtain ⟨A1, c1, rfl, k1, C1⟩ := h1
  exact (flintlaw9_rows.calls (P.length + 1001) A0 c0 P A1 c1 P true W C0 k0 C1 k1 (by unfold flintlaw9_rows.f; rw [if_pos rfl]; exact rows_l0 P hP hL P.length 0 (by omega))).mono fun e w' ⟨h1, h2⟩ => ⟨h1, h2.below⟩
theorem rowsP_small {sz seg q k N m : Nat} {zs : List Int} (hk : k ≤ 32) : ∀ i, i < (rowsP sz seg q k N m zs).length → ((rowsP sz seg q k N m zs).getD i []).length ≤ 1000 := by
  intro i hi
  rw [rowsP_len] at hi
  rw [rowsP_row hi, rowP_len]
  omega
/-- The rows that Add tells, on both sides. -/
theorem rows_new {sz seg k N : Nat} {S T : List Int} (hN : 0 < N) : rowsP sz seg (S.length / N) k N ((S.length + T.length) / N - S.length / N) ((S ++ T).drop (S.length / N * N)) = rowsP sz seg (S.length / N) k N ((S.length % N + T.length) / N) (S.drop (S.length / N * N) ++ T) := by
  have h := len_div (S := S) (T := T) hN
  rw [List.length_append] at h
  rw [h, Nat.add_sub_cancel_left, List.drop_append_of_le_length (Nat.div_mul_le_self _ _)]
/-- The row that Pad tells, on both sides. -/
theorem rows_fill {sz seg k N : Nat} {S : List Int} (hN : 0 < N) (hz : S.length % N ≠ 0) : rowsP sz seg (S.length / N) k N 1 ((filled S N).drop (S.length / N * N)) = [rowP sz seg (S.length / N + 1) k N (S.drop (S.length / N * N))] := by
  have h2 := Nat.mod_lt S.length hN
  have hr := rest_len (S := S) (N := N)
  unfold filled
  rw [if_neg hz, List.drop_append_of_le_length (Nat.div_mul_le_self _ _)]
  have hlen : (S.drop (S.length / N * N) ++ List.replicate (N - S.length % N) 0).length = N := by rw [List.length_append, List.length_replicate, hr]; omega
  have e : chunk (S.drop (S.length / N * N) ++ List.replicate (N - S.length % N) 0) N 0 = padL (S.drop (S.length / N * N)) N := by
    unfold chunk
    rw [Nat.zero_mul, List.drop_zero, List.take_of_length_le (by omega)]
    unfold padL
    rw [hr]
  show [rowP sz seg (S.length / N + 1 + 0) k N _] = _
  rw [e]
  unfold rowP
  rw [padL_pad (by rw [hr]; omega)]
theorem lack_div {n N : Nat} (hN : 0 < N) (hz : n % N ≠ 0) : n + lack n N = (n / N + 1) * N := by
  unfold lack
  rw [if_neg hz]
  have h := Nat.div_add_mod n N
  have h2 := Nat.mod_lt n hN
  rw [Nat.succ_mul, Nat.mul_comm]
  omega
end Go.Proofs.Ytjnicooboiijgaa.Sg
end

section
/-
  Both writers side by side: a step of each.
-/
set_option linter.unusedVariables false
set_option linter.unusedSimpArgs false
namespace Go.Proofs.Ytjnicooboiijgaa.Sg
open Go.RowKit Go.Proofs.YtjnicooboiijgaaW.PrintWords Go.Proofs.YtjnicooboiijgaaW.PrintLast Go.Proofs.YtjnicooboiijgaaW.PrintMore Go.Proofs.Ytjnicooboiijgaa.PSg Go.Proofs.Ytjnicooboiijgaa.Gf Go.Proofs.Ytjnicooboiijgaa.Rs
/-- Both writers, between two acts. -/
structure Tw (w W : World) (g h k p s seg N n : Nat) (S : List Int) (Ar : Option Addr) (nr cr : Nat) (A : Option Addr) (c : Nat) : Prop where
  wr : Wr W g k p s seg n (.slice Ar nr cr)
  rest : KB.R 5 W w.heap.size (fun j => (Value.slice A n c).ownBlock ≠ some j) (.slice Ar nr cr) (S.drop (n / N * N))
  rw_ : Rw W h k p s seg (.slice A n c) (n / N)
  st : KB.R 5 W w.heap.size (fun _ => True) (.slice A n c) S
  below : Below w.heap.size w W
  gb : w.heap.size ≤ g
  hb : w.heap.size ≤ h
  gh : g ≠ h
/-- Both writers, between a step of the program's and the same of the reference's. -/
structure Mid (w W : World) (g h k p s seg N n n1 : Nat) (S R : List Int) (Ar : Option Addr) (nr cr : Nat) (A : Option Addr) (c : Nat) (v : Value) (P : List (List (List Int))) : Prop where
  wr : Wr W g k p s seg n1 (.slice Ar nr cr)
  rest : KB.R 5 W w.heap.size (fun j => (Value.slice A n c).ownBlock ≠ some j) (.slice Ar nr cr) R
  rw_ : Rw W h k p s seg (.slice A n c) (n / N)
  st : KB.R 5 W w.heap.size (fun _ => True) (.slice A n c) S
  below : Below w.heap.size w W
  gb : w.heap.size ≤ g
  hb : w.heap.size ≤ h
  gh : g ≠ h
  told : ∃ b hds, KH.R 51 W b (fun _ => True) v hds ∧ OwnP W b hds P ∧ h < b ∧ ∀ j, (Value.slice A n c).ownBlock = some j → j < b
section
variable {w W W1 : World} {g h k p s seg N n n1 nr cr c : Nat} {S R : List Int} {Ar A : Option Addr} {v : Value} {P : List (List (List Int))}
theorem Tw.move (t : Tw w W g h k p s seg N n S Ar nr cr A c) (hb : Below W.heap.size W W1) : Tw w W1 g h k p s seg N n S Ar nr cr A c :=
  ⟨t.wr.below hb, Kd.R_below t.rest hb, t.rw_.below hb, Kd.R_below t.st hb, below_then t.below t.below.size hb, t.gb, t.hb, t.gh⟩
theorem Mid.move (t : Mid w W g h k p s seg N n n1 S R Ar nr cr A c v P) (hb : Below W.heap.size W W1) : Mid w W1 g h k p s seg N n n1 S R Ar nr cr A c v P :=
  ⟨t.wr.below hb, Kd.R_below t.rest hb, t.rw_.below hb, Kd.R_below t.st hb, below_then t.below t.below.size hb, t.gb, t.hb, t.gh, by
    obtain ⟨b, hds, h1, h2, h3, h4⟩ := t.told
    exact ⟨b, hds, Kd.R_below h1 hb, h2.below hb, h3, h4⟩⟩
theorem Tw.slen (t : Tw w W g h k p s seg N n S Ar nr cr A c) : S.length = n := (Kd.R_reads' t.st).1.symm
theorem Tw.rlen (t : Tw w W g h k p s seg N n S Ar nr cr A c) : nr = n % N := by
  have h1 := (Kd.R_reads' t.rest).1
  have h2 := rest_len (S := S) (N := N)
  rw [t.slen] at h2
  rw [h1, h2]
theorem Tw.stlt (t : Tw w W g h k p s seg N n S Ar nr cr A c) : ∀ j, (Value.slice A n c).ownBlock = some j → j < W.heap.size := fun j e => ((Kd.R_bound t.st).1 j e).2.2.1
theorem Tw.hlt (t : Tw w W g h k p s seg N n S Ar nr cr A c) : h < W.heap.size := heap_lt t.rw_
/-- Where the program's writer alone was set. -/
theorem Tw.mid (t : Tw w W g h k p s seg N n S Ar nr cr A c) {Ar2 : Option Addr} {nr2 cr2 : Nat} {hds : List Hd} (hW : Wr W1 g k p s seg n1 (.slice Ar2 nr2 cr2)) (hR : KB.R 5 W1 W.heap.size (fun _ => True) (.slice Ar2 nr2 cr2) R) (hb : BK w W g W1) (h1 : KH.R 51 W1 W.heap.size (fun _ => True) v hds) (h2 : OwnP W1 W.heap.size hds P) : Mid w W1 g h k p s seg N n n1 S R Ar2 nr2 cr2 A c v P :=
  ⟨hW, Kd.R_mono (Kd.R_lower (Kd.R_bound hR) t.below.size) (fun j hj e => by have := hj.2.1; have := t.stlt j e; omega), t.rw_.keep hb.keep t.gh.symm, keepW t.st (by simp [KB, Kd.int, Kd.scalar]) t.wr hb.keep, hb.below, t.gb, t.hb, t.gh, W.heap.size, hds, h1, h2, t.hlt, t.stlt⟩
/-- Where nothing was set. -/
theorem Tw.same (t : Tw w W g h k p s seg N n S Ar nr cr A c) (hb : Below W.heap.size W W1) : Mid w W1 g h k p s seg N n n S (S.drop (n / N * N)) Ar nr cr A c (.slice none 0 0) [] := by
  have t1 := t.move hb
  exact ⟨t1.wr, t1.rest, t1.rw_, t1.st, t1.below, t1.gb, t1.hb, t1.gh, W1.heap.size, [], Kd.R_nil _ _ _ _ _, OwnP.nil _ _, t1.hlt, t1.stlt⟩
/-- Where the reference's writer alone was set. -/
theorem Mid.tw (t : Mid w W g h k p s seg N n n1 S R Ar nr cr A c v P) {A2 : Option Addr} {c2 : Nat} {S2 : List Int} (hW : Rw W1 h k p s seg (.slice A2 n1 c2) (n1 / N)) (hS : KB.R 5 W1 w.heap.size (fun j => (Value.slice A n c).ownBlock = some j ∨ W.heap.size ≤ j) (.slice A2 n1 c2) S2) (hR : R = S2.drop (n1 / N * N)) (hb : Below w.heap.size w W1) (hk : KeepBut W W1 h (Value.slice A n c).ownBlock) : Tw w W1 g h k p s seg N n1 S2 Ar nr cr A2 c2 ∧ Told W1 v P := by
  have hgo : some g ≠ (Value.slice A n c).ownBlock := fun e => by
    obtain ⟨_, _, _, q, hq, cells, hc⟩ := (Kd.R_bound t.st).1 g e.symm
    have h1 := t.wr
    unfold Wr at h1
    rw [h1] at hc
    obtain ⟨_, rfl⟩ : _ ∧ (75 : Nat) = q := by simpa using hc
    simp [KB, Kd.int, Kd.scalar] at hq
  have hne : ∀ j cells, W.heap[j]? = some (.cells cells 5 (0, 0)) → j ≠ h := fun j cells hc e => by
    subst e
    have h1 := t.rw_
    unfold Rw at h1
    rw [h1] at hc
    cases hc
  refine ⟨⟨hk.blk t.wr t.gh hgo, ?_, hW, Kd.R_mono hS (fun _ _ => trivial), hb, t.gb, t.hb, t.gh⟩, ?_⟩
  · rw [← hR]
    refine Kd.R_mono (Kd.R_step (Kd.R_bound t.rest) fun j hj hlt => hk.2 j hlt ?_ (fun e => hj.1 e.symm)) (fun j hj e => ?_)
    · obtain ⟨_, _, _, q, hq, cells, hc⟩ := hj
      obtain rfl : q = 5 := by simpa [KB, Kd.int, Kd.scalar] using hq
      exact hne j cells hc
    · rcases hS.1 j e with h2 | h2
      · exact hj.1 h2
      · have := hj.2.2.1; omega
  · obtain ⟨b, hds, h1, h2, h3, h4⟩ := t.told
    have hm : ∀ {α : Type} {d : Kd α} {e : Nat} {u : Value} {xs : List α}, d.R e W b (fun _ => True) u xs → d.R e W1 b (fun _ => True) u xs := fun hu =>
      Kd.R_mono (Kd.R_step (Kd.R_bound hu) fun j hj hlt => hk.2 j hlt (fun e => by have := hj.2.1; omega) (fun e => by have := hj.2.1; have := h4 j e.symm; omega)) (fun _ _ => trivial)
    refine told_P (hm h1) (b2 := b) ⟨h2.len, fun i x hx => ?_⟩
    obtain ⟨hs, g1, g2, g3⟩ := h2.rows i x hx
    exact ⟨hs, g1, hm g2, g3.move fun _ _ hu => hm hu⟩
/-- Add, on the program's side. -/
theorem Tw.add (t : Tw w W g h k p s seg N n S Ar nr cr A c) (hf : Fits k p s) (hN : k * roomN s = N) {Ab : Option Addr} {nb cb : Nat} {bl : List Int} (hx : bytes S = true) (hA : KB.C W Ab nb bl) (hcb : nb ≤ cb) (hbl : bytes bl = true) (hseg : seg < 18446744073709551616) (h0 : 0 < nb) (h9 : nb ≤ 20000) (hl : n + nb ≤ N * (p - 1)) :
    Calls Try.prog 17 #[.pointer (some ⟨g, 0, none⟩), .slice Ab nb cb] W fun e W1 => ∃ v Ar2 nr2 cr2, e = .returned (.tuple #[.int .i64 n, v, .int .i64 0]) ∧ Mid w W1 g h k p s seg N n (n + nb) S ((S ++ bl).drop ((n + nb) / N * N)) Ar2 nr2 cr2 A c v (rowsP s seg (n / N) k N ((n + nb) / N - n / N) ((S ++ bl).drop (n / N * N))) := by
  have hNp : 0 < N := by rw [← hN]; exact Nat.mul_pos (by have := hf.k1; omega) (by have := room_pos hf.s1 hf.s2; omega)
  have hsl := t.slen
  have hrl := t.rlen
  have hbll : bl.length = nb := Kd.C_len hA
  have hq : n = n / N * N + nr := by rw [hrl, Nat.mul_comm]; exact (Nat.div_add_mod n N).symm
  refine (add17_ok w W g k p s seg n (n / N) nr N nb cr cb Ar Ab hf hN t.gb t.below (S.drop (n / N * N)) bl hq t.wr (Kd.R_mono t.rest fun _ _ => trivial) (by
    unfold bytes at *; rw [List.all_eq_true] at *; exact fun x h => hx x (List.mem_of_mem_drop h)) hA hcb hbl hseg (by rw [hrl]; exact Nat.mod_lt _ hNp) h0 h9 hl).mono ?_
  rintro e W1 ⟨v, A2, n2, c2, hds, rfl, hH, hO, hW, hR, hb⟩
  refine ⟨v, A2, n2, c2, rfl, t.mid hW ?_ hb hH ?_⟩
  · have := rest_add (S := S) (T := bl) hNp
    rw [List.length_append, hsl, hbll, ← hrl] at this
    rw [this] at hR
    exact hR
  · have := rows_new (sz := s) (seg := seg) (k := k) (S := S) (T := bl) hNp
    rw [hsl, hbll, ← hrl] at this
    rw [this]
    exact hO
/-- Add, on the reference's side. -/
theorem Mid.add {nb : Nat} (t : Mid w W g h k p s seg N n (n + nb) S R Ar nr cr A c v P) (hf : Fits k p s) (hN : k * roomN s = N) {Ab : Option Addr} {cb : Nat} {bl : List Int} (hR : R = (S ++ bl).drop ((n + nb) / N * N)) (hx : bytes S = true) (hA : KB.C W Ab nb bl) (hbl : bytes bl = true) (hseg : seg < 18446744073709551616) (h0 : 0 < nb) (h9 : n + nb ≤ 4000000) (hl : n + nb ≤ N * (p - 1)) :
    Calls Try.prog 18 #[.pointer (some ⟨h, 0, none⟩), .slice Ab nb cb] W fun e W1 => ∃ v2 A2 c2, e = .returned (.tuple #[.int .i64 n, v2, .int .i64 0]) ∧ Tw w W1 g h k p s seg N (n + nb) (S ++ bl) Ar nr cr A2 c2 ∧ Told W1 v P ∧ Told W1 v2 (rowsP s seg (n / N) k N ((n + nb) / N - n / N) ((S ++ bl).drop (n / N * N))) := by
  refine (radd18_ok w W h k p s seg N n c nb cb A Ab S bl hf hN t.hb t.below t.rw_ t.st hx hA hbl hseg h0 hl h9).mono ?_
  rintro e W1 ⟨v2, A2, c2, hs, rfl, hH, hO, hW, hS, hb, hk⟩
  obtain ⟨t1, t2⟩ := t.tw hW hS hR hb hk
  exact ⟨v2, A2, c2, rfl, t1, t2, told_N hH hO⟩
/-- Pad, on the program's side. -/
theorem Tw.pad (t : Tw w W g h k p s seg N n S Ar nr cr A c) (hf : Fits k p s) (hN : k * roomN s = N) (hx : bytes S = true) (hseg : seg < 18446744073709551616) (hl : n ≤ N * (p - 1)) {m : Nat} (hm : n + lack n N = m) :
    Calls Try.prog 15 #[.pointer (some ⟨g, 0, none⟩)] W fun e W1 => ∃ v Ar2 nr2 cr2, e = .returned v ∧ Mid w W1 g h k p s seg N n m S ((filled S N).drop (m / N * N)) Ar2 nr2 cr2 A c v (rowsP s seg (n / N) k N (m / N - n / N) ((filled S N).drop (n / N * N))) := by
  have hNp : 0 < N := by rw [← hN]; exact Nat.mul_pos (by have := hf.k1; omega) (by have := room_pos hf.s1 hf.s2; omega)
  have hsl := t.slen
  have hrl := t.rlen
  by_cases hz : n % N = 0
  · have hl0 : lack n N = 0 := by unfold lack; rw [if_pos hz]
    rw [hl0, Nat.add_zero] at hm
    subst hm
    have hfl : filled S N = S := by unfold filled; rw [hsl, if_pos hz]
    rw [hfl, Nat.sub_self]
    have hr0 : nr = 0 := by rw [hrl, hz]
    subst hr0
    refine (pad15_no W g k p s seg n cr Ar t.wr).mono ?_
    rintro e W1 ⟨rfl, hb⟩
    exact ⟨_, Ar, 0, cr, rfl, t.same hb⟩
  · have hmm : m = (n / N + 1) * N := by rw [← hm]; exact lack_div hNp hz
    have hq : n = n / N * N + nr := by rw [hrl, Nat.mul_comm]; exact (Nat.div_add_mod n N).symm
    have hmd : m / N = n / N + 1 := by rw [hmm, Nat.mul_div_cancel _ hNp]
    have hfr := filled_room (S := S) hNp (by rw [hsl]; exact hl)
    rw [hsl, if_neg hz] at hfr
    have hwr : Wr W g k p s seg (n / N * N + nr) (.slice Ar nr cr) := by rw [← hq]; exact t.wr
    refine (pad15_yes w W g k p s seg (n / N) N nr cr Ar hf hN t.gb t.below (S.drop (n / N * N)) hwr (Kd.R_mono t.rest fun _ _ => trivial) (by
      unfold bytes at *; rw [List.all_eq_true] at *; exact fun x h => hx x (List.mem_of_mem_drop h)) hseg (by rw [hrl]; omega) (by rw [hrl]; exact Nat.le_of_lt (Nat.mod_lt _ hNp)) (by have := hf.p1; omega)).mono ?_
    rintro e W1 ⟨A2, c2, hds, rfl, _, hH, hO, hW, hb⟩
    refine ⟨_, none, 0, 0, rfl, t.mid (by rw [hmm]; exact hW) ?_ hb hH ?_⟩
    · have hfl := filled_len (S := S) hNp
      rw [hsl, if_neg hz] at hfl
      rw [List.drop_of_length_le (by rw [hfl, hmd]; exact Nat.le_refl _)]
      exact Kd.R_nil _ _ _ _ _
    · have := rows_fill (sz := s) (seg := seg) (k := k) (S := S) hNp (by rw [hsl]; exact hz)
      rw [hsl] at this
      rw [hmd, Nat.add_sub_cancel_left, this]
      exact hO
/-- Pad, on the reference's side. -/
theorem Mid.pad {m : Nat} (t : Mid w W g h k p s seg N n m S R Ar nr cr A c v P) (hf : Fits k p s) (hN : k * roomN s = N) (hR : R = (filled S N).drop (m / N * N)) (hx : bytes S = true) (hseg : seg < 18446744073709551616) (hl : n ≤ N * (p - 1)) (hm : n + lack n N = m) (h9 : m ≤ 4000000) :
    Calls Try.prog 16 #[.pointer (some ⟨h, 0, none⟩)] W fun e W1 => ∃ v2 A2 c2, e = .returned v2 ∧ Tw w W1 g h k p s seg N m (filled S N) Ar nr cr A2 c2 ∧ Told W1 v P ∧ Told W1 v2 (rowsP s seg (n / N) k N (m / N - n / N) ((filled S N).drop (n / N * N))) := by
  have hNp : 0 < N := by rw [← hN]; exact Nat.mul_pos (by have := hf.k1; omega) (by have := room_pos hf.s1 hf.s2; omega)
  have hsl : S.length = n := (Kd.R_reads' t.st).1.symm
  have hml : m ≤ N * (p - 1) := by
    by_cases hz : n % N = 0
    · have hl0 : lack n N = 0 := by unfold lack; rw [if_pos hz]
      omega
    · have hfr := filled_room (S := S) hNp (by rw [hsl]; exact hl)
      rw [hsl, if_neg hz] at hfr
      rw [← hm, lack_div hNp hz, Nat.mul_comm]
      exact Nat.mul_le_mul_left N hfr
  refine (rpad16_ok w W h k p s seg N n c m A S hf hN t.hb t.below t.rw_ t.st hx hseg hm hml h9).mono ?_
  rintro e W1 ⟨v2, A2, c2, hs, rfl, hH, hO, hW, hS, hb, hk⟩
  obtain ⟨t1, t2⟩ := t.tw hW hS hR hb hk
  exact ⟨v2, A2, c2, rfl, t1, t2, told_N hH hO⟩
end
end Go.Proofs.Ytjnicooboiijgaa.Sg
end

section
/-
  flintlaw9.SegWrites: few acts; no shape; acts that are not few.
-/
set_option linter.unusedVariables false
set_option linter.unusedSimpArgs false
namespace Go.Proofs.Ytjnicooboiijgaa.Sg
open Go.RowKit Go.Proofs.YtjnicooboiijgaaW.PrintWords Go.Proofs.YtjnicooboiijgaaW.PrintLast Go.Proofs.YtjnicooboiijgaaW.PrintMore Go.Proofs.Ytjnicooboiijgaa.PSg Go.Proofs.Ytjnicooboiijgaa.Gf Go.Proofs.Ytjnicooboiijgaa.Rs
/-- How many bytes the first acts have. -/
def sumA (l : List S41) : Nat → Nat
  | 0 => 0
  | t + 1 => sumA l t + (rd_T41 l (t : Int)).f0.length
theorem blob_le {l : List S41} (hw : ∀ x ∈ l, x.f0.length ≤ 1048576) (i : Nat) : (rd_T41 l (i : Int)).f0.length ≤ 1048576 := by
  unfold rd_T41
  rw [Int.toNat_natCast, List.getD_eq_getElem?_getD]
  rcases h : l[i]? with _ | x
  · exact Nat.zero_le _
  · exact hw x (List.mem_of_getElem? h)
theorem sumA_le {l : List S41} (hw : ∀ x ∈ l, x.f0.length ≤ 1048576) : ∀ i, sumA l i ≤ i * 1048576
  | 0 => Nat.zero_le _
  | i + 1 => by
    have h1 := sumA_le hw i
    have h2 := blob_le hw i
    show sumA l i + _ ≤ _
    omega
theorem sumA_mono (l : List S41) {t u : Nat} (h : t ≤ u) : sumA l t ≤ sumA l u := by
  induction u with
  | zero => obtain rfl : t = 0 := by omega
            exact Nat.le_refl _
  | succ u ih =>
    rcases Nat.lt_or_ge t (u + 1) with h1 | h1
    · have := ih (by omega); show _ ≤ sumA l u + _; omega
    · obtain rfl : t = u + 1 := by omega
      exact Nat.le_refl _
theorem few_l0 {l : List S41} (hw : ∀ x ∈ l, x.f0.length ≤ 1048576) (hl : l.length ≤ 1048576) : ∀ (d i K : Nat), i + d = l.length → d < K → flintlaw9_few.l0 K l (sumA l i : Nat) (i : Int) = some (decide (l.length ≤ 200 ∧ sumA l l.length ≤ 20000)) := by
  intro d
  induction d with
  | zero =>
    intro i K hi hK
    obtain ⟨K, rfl⟩ : ∃ q, K = q + 1 := ⟨K - 1, by omega⟩
    obtain rfl : i = l.length := by omega
    unfold flintlaw9_few.l0
    rw [if_neg (by omega)]
    by_cases h : l.length ≤ 200
    · rw [if_pos (by omega)]
      congr 1
      rw [decide_eq_decide]
      omega
    · rw [if_neg (by omega)]
      congr 1
      symm
      rw [decide_eq_false_iff_not]
      omega
  | succ d ih =>
    intro i K hi hK
    obtain ⟨K, rfl⟩ : ∃ q, K = q + 1 := ⟨K - 1, by omega⟩
    unfold flintlaw9_few.l0
    rw [if_pos (by omega), if_pos (by omega)]
    have h1 := sumA_le hw i
    have h2 := blob_le hw i
    have e : wrap64 ((i : Int) + 1) = ((i + 1 : Nat) : Int) := by unfold wrap64; omega
    have e2 : wrap64 (((sumA l i : Nat) : Int) + (((rd_T41 l (i : Int)).f0.length : Nat) : Int)) = ((sumA l (i + 1) : Nat) : Int) := by
      show _ = ((sumA l i + (rd_T41 l (i : Int)).f0.length : Nat) : Int)
      generalize (rd_T41 l (i : Int)).f0.length = q at *
      generalize sumA l i = r at *
      unfold wrap64
      omega
    rw [e, e2]
    exact ih (i + 1) K (by omega) (by omega)
theorem few10 (W : World) {l : List S41} (hw : ∀ x ∈ l, x.f0.length ≤ 1048576) (hl : l.length ≤ 1048576) {A : Option Addr} {n c : Nat} (hn : l.length = n) (hC : Kd.C k41 W A l.length l) (hc : l.length ≤ c) (b : Bool) (hb : b = decide (n ≤ 200 ∧ sumA l n ≤ 20000)) :
    Calls Try.prog 10 #[.slice A n c] W fun e w' => e = .returned (.bool b) ∧ Below W.heap.size W w' := by
  subst hn hb
  exact (flintlaw9_few.calls (l.length + 1) A c l _ W hC hc (by unfold flintlaw9_few.f; exact few_l0 hw hl l.length 0 _ (by omega) (by omega))).mono fun e w' ⟨h1, h2⟩ => ⟨h1, h2.below⟩
theorem of13 (W : World) (x y z : Int) : Calls Try.prog 13 #[.agg #[.int .i64 x, .int .i64 y, .int .i64 z]] W fun e w' => e = .returned (.agg #[.int .i64 x, .int .i64 y, .int .i64 z]) ∧ Below W.heap.size W w' := flintlaw9_Of.calls x y z x y z W rfl
theorem rcheck12_no (W : World) {x y z : Int} (h : seg_Check.f x y z = some 1) : Calls Try.prog 12 #[.agg #[.int .i64 x, .int .i64 y, .int .i64 z]] W fun e w' => e = .returned (.int .i64 1) ∧ Below W.heap.size W w' := flintref9_Check.calls 1 x y z 1 W (rcheck_no h)
theorem rcheck12_yes (W : World) {k p s : Nat} (hf : Fits k p s) : Calls Try.prog 12 #[.agg #[.int .i64 k, .int .i64 p, .int .i64 s]] W fun e w' => e = .returned (.int .i64 0) ∧ Below W.heap.size W w' := flintref9_Check.calls 1 k p s 0 W (rcheck_yes hf)
set_option maxHeartbeats 8000000 in
set_option maxRecDepth 100000 in
theorem new11_no (w : World) (x y z seg : Int) (h : seg_Check.f x y z = some 1) :
    Calls Try.prog 11 #[.agg #[.int .i64 x, .int .i64 y, .int .i64 z], .int .u64 seg] w fun e w' => e = .returned (.tuple #[.pointer none, .int .i64 1]) ∧ Below w.heap.size w w' := by
  have HC := Aside0.mk (fun (W : World) => seg_Check.calls x y z 1 W h)
  have HB := Aside0.mk (below_alloc (Below.refl w.heap.size w) (.cells #[.int .i64 x, .int .i64 y, .int .i64 z] 23))
  clear h
  go_enter Try.func11, Try.ntmps11
  go_wp2_with (go_at_call 22; refine Calls.mono (HC.out _) ?_; rintro e w1 ⟨rfl, hb⟩; replace HB := Aside0.mk (below_then HB.out HB.out.size hb); clear hb)
  go_ret2
  exact ⟨rfl, HB.out⟩
set_option maxHeartbeats 16000000 in
set_option maxRecDepth 100000 in
theorem writes3_no (w : World) (x y z seg : Int) {l : List S41} (hw : ∀ x ∈ l, x.f0.length ≤ 1048576) (hl : l.length ≤ 1048576) {A : Option Addr} {n c : Nat} (hn : l.length = n) (hC : Kd.C k41 w A l.length l) (hc : l.length ≤ c) (h : seg_Check.f x y z = some 1) : Calls Try.prog 3 #[.agg #[.int .i64 x, .int .i64 y, .int .i64 z], .int .u64 seg, .slice A n c] w fun e w' => e = .returned (.bool true) ∧ Below w.heap.size w w' := by
  have HK := Aside0.mk (fun (W : World) => known8 W)
  have HS := Aside0.mk (fun (W : World) => small9_no W h)
  have HO := Aside0.mk (fun (W : World) => of13 W x y z)
  have HR := Aside0.mk (fun (W : World) => rcheck12_no W h)
  have HN := Aside0.mk (fun (W : World) => new11_no W x y z seg h)
  have HH := Aside0.mk (heap_alloc_last w (.cells #[.int .i64 x, .int .i64 y, .int .i64 z] 23))
  have HB := Aside0.mk (below_alloc (Below.refl w.heap.size w) (.cells #[.int .i64 x, .int .i64 y, .int .i64 z] 23))
  have HFB := fun b hb => Aside0.mk (fun (W : World) (hW : Below w.heap.size w W) => few10 W hw hl hn (Kd.C_below hC hW) hc b hb)
  have HF : ∃ b, Aside0 (∀ W : World, Below w.heap.size w W → Calls Try.prog 10 #[.slice A n c] W fun e w' => e = .returned (.bool b) ∧ Below W.heap.size W w') := ⟨_, HFB _ rfl⟩
  obtain ⟨b, HF⟩ := HF
  clear h hw hl hn hC hc HFB
  rcases b with _ | _
  all_goals
    go_enter Try.func3, Try.ntmps3
    go_wp2_with (first
      | (go_at_call 8; refine Calls.mono (HK.out _) ?_; rintro e w2 ⟨rfl, hb⟩; replace HH := Aside0.mk ((hb.block _ (heap_lt HH.out)).trans HH.out); replace HB := Aside0.mk (below_then HB.out HB.out.size hb); have y0 := blkc HH.out 0 rfl; have y1 := blkc HH.out 1 rfl; have y2 := blkc HH.out 2 rfl; clear hb)
      | (go_at_call 9; refine Calls.mono (HS.out _) ?_; rintro e w2 ⟨rfl, hb⟩; replace HH := Aside0.mk ((hb.block _ (heap_lt HH.out)).trans HH.out); replace HB := Aside0.mk (below_then HB.out HB.out.size hb); have y0 := blkc HH.out 0 rfl; have y1 := blkc HH.out 1 rfl; have y2 := blkc HH.out 2 rfl; clear hb)
      | (go_at_call 10; refine Calls.mono (HF.out _ HB.out) ?_; rintro e w2 ⟨rfl, hb⟩; replace HH := Aside0.mk ((hb.block _ (heap_lt HH.out)).trans HH.out); replace HB := Aside0.mk (below_then HB.out HB.out.size hb); have y0 := blkc HH.out 0 rfl; have y1 := blkc HH.out 1 rfl; have y2 := blkc HH.out 2 rfl; clear hb)
      | (go_at_call 11; refine Calls.mono (HN.out _) ?_; rintro e w2 ⟨rfl, hb⟩; replace HH := Aside0.mk ((hb.block _ (heap_lt HH.out)).trans HH.out); replace HB := Aside0.mk (below_then HB.out HB.out.size hb); have y0 := blkc HH.out 0 rfl; have y1 := blkc HH.out 1 rfl; have y2 := blkc HH.out 2 rfl; clear hb)
      | (go_at_call 13; refine Calls.mono (HO.out _) ?_; rintro e w2 ⟨rfl, hb⟩; replace HH := Aside0.mk ((hb.block _ (heap_lt HH.out)).trans HH.out); replace HB := Aside0.mk (below_then HB.out HB.out.size hb); have y0 := blkc HH.out 0 rfl; have y1 := blkc HH.out 1 rfl; have y2 := blkc HH.out 2 rfl; clear hb)
      | (go_at_call 12; refine Calls.mono (HR.out _) ?_; rintro e w2 ⟨rfl, hb⟩; replace HH := Aside0.mk ((hb.block _ (heap_lt HH.out)).trans HH.out); replace HB := Aside0.mk (below_then HB.out HB.out.size hb); have y0 := blkc HH.out 0 rfl; have y1 := blkc HH.out 1 rfl; have y2 := blkc HH.out 2 rfl; clear hb))
    go_ret
    exact ⟨rfl, HB.out⟩
set_option maxHeartbeats 16000000 in
set_option maxRecDepth 100000 in
theorem writes3_off (w : World) {k p s : Nat} (hf : Fits k p s) (seg : Int) {l : List S41} (hw : ∀ x ∈ l, x.f0.length ≤ 1048576) (hl : l.length ≤ 1048576) {A : Option Addr} {n c : Nat} (hn : l.length = n) (hC : Kd.C k41 w A l.length l) (hc : l.length ≤ c) (h : ¬ ((s ≤ 600 ∧ k ≤ 12) ∧ (n ≤ 200 ∧ sumA l n ≤ 20000))) : Calls Try.prog 3 #[.agg #[.int .i64 k, .int .i64 p, .int .i64 s], .int .u64 seg, .slice A n c] w fun e w' => e = .returned (.bool true) ∧ Below w.heap.size w w' := by
  have HK := Aside0.mk (fun (W : World) => known8 W)
  have HH := Aside0.mk (heap_alloc_last w (.cells #[.int .i64 k, .int .i64 p, .int .i64 s] 23))
  have HB := Aside0.mk (below_alloc (Below.refl w.heap.size w) (.cells #[.int .i64 k, .int .i64 p, .int .i64 s] 23))
  by_cases h1 : s ≤ 600 ∧ k ≤ 12
  · have HS := Aside0.mk (fun (W : World) => small9_yes W hf true (by simp [h1]))
    have HF := Aside0.mk (fun (W : World) (hW : Below w.heap.size w W) => few10 W hw hl hn (Kd.C_below hC hW) hc false (by rw [eq_comm, decide_eq_false_iff_not]; exact fun h2 => h ⟨h1, h2⟩))
    clear h hw hl hn hC hc hf h1
    go_enter Try.func3, Try.ntmps3
    go_wp2_with (first
      | (go_at_call 8; refine Calls.mono (HK.out _) ?_; rintro e w2 ⟨rfl, hb⟩; replace HH := Aside0.mk ((hb.block _ (heap_lt HH.out)).trans HH.out); replace HB := Aside0.mk (below_then HB.out HB.out.size hb); have y0 := blkc HH.out 0 rfl; have y1 := blkc HH.out 1 rfl; have y2 := blkc HH.out 2 rfl; clear hb)
      | (go_at_call 9; refine Calls.mono (HS.out _) ?_; rintro e w2 ⟨rfl, hb⟩; replace HH := Aside0.mk ((hb.block _ (heap_lt HH.out)).trans HH.out); replace HB := Aside0.mk (below_then HB.out HB.out.size hb); have y0 := blkc HH.out 0 rfl; have y1 := blkc HH.out 1 rfl; have y2 := blkc HH.out 2 rfl; clear hb)
      | (go_at_call 10; refine Calls.mono (HF.out _ HB.out) ?_; rintro e w2 ⟨rfl, hb⟩; replace HB := Aside0.mk (below_then HB.out HB.out.size hb); clear hb))
    go_ret
    exact ⟨rfl, HB.out⟩
  · have HS := Aside0.mk (fun (W : World) => small9_yes W hf false (by simp [h1]))
    clear h hw hl hn hC hc hf h1
    go_enter Try.func3, Try.ntmps3
    go_wp2_with (first
      | (go_at_call 8; refine Calls.mono (HK.out _) ?_; rintro e w2 ⟨rfl, hb⟩; replace HH := Aside0.mk ((hb.block _ (heap_lt HH.out)).trans HH.out); replace HB := Aside0.mk (below_then HB.out HB.out.size hb); have y0 := blkc HH.out 0 rfl; have y1 := blkc HH.out 1 rfl; have y2 := blkc HH.out 2 rfl; clear hb)
      | (go_at_call 9; refine Calls.mono (HS.out _) ?_; rintro e w2 ⟨rfl, hb⟩; replace HB := Aside0.mk (below_then HB.out HB.out.size hb); clear hb))
    go_ret
    exact ⟨rfl, HB.out⟩
end Go.Proofs.Ytjnicooboiijgaa.Sg
end
