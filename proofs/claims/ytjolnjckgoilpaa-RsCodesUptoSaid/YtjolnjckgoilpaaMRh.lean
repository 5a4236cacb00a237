/- Several texts of this session laid together: RsGone, RsRf, RsRh. -/
import Derived.Test.YtjolnjckgoilpaaMMin
import Derived.Test.YtjolnjckgoilpaaPRax4
import Derived.Test.YtjolnjckgoilpaaGaFacts
import Derived.Test.YtjolnjckgoilpaaMInv4
section
/-
  A code's shards of which some are left out, in turn: the plain facts and the state in memory.
-/
set_option linter.unusedVariables false
set_option linter.unusedSimpArgs false
namespace Go.Proofs.Ytjolnjckgoilpaa.Rs
open Go.RowKit Go.Proofs.YtjolnjckgoilpaaW.PrintWords Go.Proofs.YtjolnjckgoilpaaW.PrintLast Go.Proofs.YtjolnjckgoilpaaW.PrintMore Go.Proofs.Ytjolnjckgoilpaa.PRa Go.Proofs.Ytjolnjckgoilpaa.Gf
theorem kh_put2 {W : World} {base n ab cap : Nat} {ok : Nat → Prop} {hs : List Hd} (h : KH.R 25 W base ok (.slice (some ⟨ab, 0, none⟩) n cap) hs) (hl : hs.length = n) (i : Nat) (x : Hd) : KH.R 25 (W.setCell ⟨ab, i, none⟩ (.slice x.1 x.2.1 x.2.2)) base ok (.slice (some ⟨ab, 0, none⟩) n cap) (hs.set i x) := by
  rw [← hl] at h
  have := (Kd.R_put h (i : Int) x).1
  rw [Int.toNat_natCast, hl] at this
  exact this
theorem KH_len2 {W : World} {base n ab cap : Nat} {ok : Nat → Prop} {hs : List Hd} (h : KH.R 25 W base ok (.slice (some ⟨ab, 0, none⟩) n cap) hs) (hl : hs.length = n) : KH.C W (some ⟨ab, 0, none⟩) n hs ∧ n ≤ cap := by
  rw [← hl] at h
  have := Kd.R_reads' h
  rw [hl] at this
  exact ⟨this.2.2, this.2.1⟩
/-- The code's shards but for those of S. -/
structure GoneOf (a : List (List Int)) (k m : Nat) (l : List (List Int)) (S : List Nat) : Prop where
  len : l.length = k + 2
  ok : okB l = true
  nd : S.Nodup
  lt : ∀ i, i ∈ S → i < k + 2
  out : ∀ i, i < k + 2 → i ∈ S → row l i = []
  stay : ∀ i, i < k + 2 → i ∉ S → row l i = row (allL a k m) i
theorem GoneOf.start {a : List (List Int)} {k m : Nat} (ha : a.length = k) (ok : okB a = true) : GoneOf a k m (allL a k m) [] :=
  ⟨allL_len ha, allL_ok ok, List.nodup_nil, fun i h => absurd h List.not_mem_nil, fun i _ h => absurd h List.not_mem_nil, fun _ _ _ => rfl⟩
theorem GoneOf.step {a l : List (List Int)} {k m i : Nat} {S : List Nat} (h : GoneOf a k m l S) (hi : i < k + 2) (hn : i ∉ S) : GoneOf a k m (goneL l i) (i :: S) := by
  have hi2 : i < l.length := by rw [h.len]; exact hi
  refine ⟨by unfold goneL; rw [List.length_set, h.len], goneL_ok h.ok, List.nodup_cons.mpr ⟨hn, h.nd⟩, fun q hq => ?_, fun q hq hs => ?_, fun q hq hs => ?_⟩
  · rcases List.mem_cons.mp hq with e | e
    · subst e; exact hi
    · exact h.lt q e
  · rw [goneL_row hi2]
    rcases List.mem_cons.mp hs with e | e
    · rw [if_pos e]
    · split
      · rfl
      · exact h.out q hq e
  · rw [goneL_row hi2, if_neg (fun e => hs (by rw [e]; exact List.mem_cons_self))]
    exact h.stay q hq (fun e => hs (List.mem_cons_of_mem _ e))
theorem GoneOf.lens {a l : List (List Int)} {k m : Nat} {S : List Nat} (h : GoneOf a k m l S) (ha : a.length = k) (hm : ∀ i, i < k → (row a i).length = m) (i : Nat) (hi : i < k + 2) : (row l i).length = if i ∈ S then 0 else m := by
  by_cases e : i ∈ S
  · rw [if_pos e, h.out i hi e]; rfl
  · rw [if_neg e, h.stay i hi e]; exact allL_lens ha hm i hi
theorem GoneOf.miss {a l : List (List Int)} {k m : Nat} {S : List Nat} (h : GoneOf a k m l S) (ha : a.length = k) (hm : ∀ i, i < k → (row a i).length = m) (hm0 : 0 < m) : (missL l).length = S.length := by
  refine Nat.le_antisymm (miss_le h.len S fun i hi hp => ?_) (miss_ge h.len S h.nd fun i hi => ⟨h.lt i hi, fun hp => hp ?_⟩)
  · by_cases e : i ∈ S
    · exact e
    · exact absurd (by unfold pres; rw [h.lens ha hm i hi, if_neg e]; omega) hp
  · rw [h.out i (h.lt i hi) hi]; rfl
/-- What Rebuild tells: the code's shards. -/
def AnyQ (a : List (List Int)) (k m : Nat) (w : World) (e : Ending) (w' : World) : Prop := ∃ ob cap, e = .returned (.tuple #[.slice (some ⟨ob, 0, none⟩) (k + 2) cap, .int .i64 0]) ∧ KR.C w' (some ⟨ob, 0, none⟩) (k + 2) (allL a k m) ∧ k + 2 ≤ cap ∧ Below w.heap.size w w'
theorem Outs.toRows {W : World} {base n m : Nat} {hs : List Hd} {L : Nat → List Int} {l : List (List Int)} (h : Outs W base n m (fun _ => True) hs L) (hl : l.length = n) (hL : ∀ i, i < n → L i = row l i) : Rows W hs l := by
  refine ⟨by rw [h.len, hl], fun i x hx => ?_⟩
  have hi : i < n := by
    have := (List.getElem?_eq_some_iff.1 hx).1
    rw [h.len] at this
    exact this
  obtain ⟨b, c, h1, h2, h3, h4⟩ := h.rows i hi trivial
  rw [hx] at h1
  obtain rfl := Option.some.inj h1
  have h5 : KB.R 5 W base (fun _ => True) (.slice (some ⟨b, 0, none⟩) (L i).length c) (L i) := by rw [h3]; exact h4
  have h6 := Kd.R_reads' h5
  rw [← hL i hi]
  refine ⟨h3.symm, h2, ?_⟩
  show KB.C W _ m (L i)
  rw [← h3]
  exact h6.2.2
theorem any_few (W : World) (g k m : Nat) (hc : CodeAt W g k) (hk : 1 ≤ k) (hk2 : k ≤ 32) (B : Option Addr) (d : Nat) (a l : List (List Int)) (S : List Nat) (hL : KR.C W B (k + 2) l) (hd : k + 2 ≤ d) (hm0 : 0 < m) (hm9 : m ≤ 1000000) (ha : a.length = k) (oka : okB a = true) (hm : ∀ i, i < k → (row a i).length = m) (hG : GoneOf a k m l S) (hS : S.length ≤ 2) :
    Calls Try.prog 12 #[.pointer (some ⟨g, 0, none⟩), .slice B (k + 2 : Nat) d] W (AnyQ a k m W) := by
  obtain ⟨L, hLr, hC⟩ := rebuild_few W g k hc hk hk2 B d l (k + 2) hL rfl hd m hm0 hm9 hG.ok (fun i hi => by rw [hG.lens ha hm i hi]; split; exact .inl rfl; exact .inr rfl) (by rw [hG.miss ha hm hm0]; exact hS)
  refine hC.mono fun e w' h => ?_
  obtain ⟨ob, cap, hs, rfl, h1, h2, h3⟩ := h
  have hr := hLr a ha oka hm (fun i hi hp => hG.stay i hi (fun e => hp (by rw [hG.out i hi e]; rfl)))
  have h4 := KH_len2 h1 (by rw [h2.len])
  exact ⟨ob, cap, rfl, KR_of_KH h4.1 (h2.toRows (allL_len ha) hr), h4.2, h3⟩
/-- The state in memory: all the shards' headers in one row, those that are left of them in another one, the three numbers in a third. -/
structure Ga (w5 W : World) (n ab cA lb cL gb : Nat) (hsA hsL : List Hd) (gs : Nat → Int) : Prop where
  below : Below w5.heap.size w5 W
  all : KH.R 25 W w5.heap.size (fun k => k ≠ lb) (.slice (some ⟨ab, 0, none⟩) n cA) hsA
  lst : KH.R 25 W w5.heap.size (fun _ => True) (.slice (some ⟨lb, 0, none⟩) n cL) hsL
  lenA : hsA.length = n
  lenL : hsL.length = n
  ne : gb ≠ lb
  gs : ∀ i, i < 3 → W.cell? ⟨gb, i, none⟩ = some (.int .i64 (gs i))
variable {w5 W W1 : World} {n ab cA lb cL gb : Nat} {hsA hsL : List Hd} {gs : Nat → Int}
theorem Ga.move (h : Ga w5 W n ab cA lb cL gb hsA hsL gs) (hb : Below W.heap.size W W1) : Ga w5 W1 n ab cA lb cL gb hsA hsL gs :=
  ⟨below_then h.below h.below.size hb, Kd.R_below h.all hb, Kd.R_below h.lst hb, h.lenA, h.lenL, h.ne, fun i hi => pw_cell_below hb (h.gs i hi)⟩
theorem Ga.put (h : Ga w5 W n ab cA lb cL gb hsA hsL gs) (i : Nat) : Ga w5 (W.setCell ⟨lb, i, none⟩ (.slice none 0 0)) n ab cA lb cL gb hsA (hsL.set i (none, 0, 0)) gs :=
  ⟨below_set h.below (Kd.R_base h.lst lb rfl), Kd.R_far h.all (fun k hk => hk) _, kh_put2 h.lst h.lenL i (none, 0, 0), h.lenA, by rw [List.length_set]; exact h.lenL, h.ne, fun j hj => by rw [cell_far h.ne]; exact h.gs j hj⟩
theorem Ga.free (h : Ga w5 W n ab cA lb cL gb hsA hsL gs) (i : Nat) : W.frozen? ⟨lb, i, none⟩ = false := by
  obtain ⟨cl, hcl⟩ := Kd.R_typed h.lst lb rfl
  exact frozen_blk hcl
theorem Ga.head (h : Ga w5 W n ab cA lb cL gb hsA hsL gs) {i : Nat} {x : Hd} (hi : i < n) (hx : hsL[i]? = some x) : W.cell? ⟨lb, i, none⟩ = some (.slice x.1 x.2.1 x.2.2) := by
  have := KH_atA (KH_len2 h.lst h.lenL).1 hi hx
  rw [Addr.add_mid, Nat.zero_add] at this
  exact this
/-- The state, with what is left of the shards. -/
def Gz (w5 W : World) (a : List (List Int)) (k m ab cA lb cL gb : Nat) (hsA : List Hd) (gs : Nat → Int) (S : List Nat) : Prop := ∃ hsL l, Ga w5 W (k + 2) ab cA lb cL gb hsA hsL gs ∧ Rows w5 hsL l ∧ GoneOf a k m l S
variable {a : List (List Int)} {k m : Nat} {S : List Nat}
theorem Gz.move (h : Gz w5 W a k m ab cA lb cL gb hsA gs S) (hb : Below W.heap.size W W1) : Gz w5 W1 a k m ab cA lb cL gb hsA gs S := by
  obtain ⟨hsL, l, h1, h2, h3⟩ := h
  exact ⟨hsL, l, h1.move hb, h2, h3⟩
theorem Gz.below (h : Gz w5 W a k m ab cA lb cL gb hsA gs S) : Below w5.heap.size w5 W := by
  obtain ⟨hsL, l, h1, h2, h3⟩ := h
  exact h1.below
theorem Gz.free (h : Gz w5 W a k m ab cA lb cL gb hsA gs S) (i : Nat) : W.frozen? ⟨lb, i, none⟩ = false := by
  obtain ⟨hsL, l, h1, h2, h3⟩ := h
  exact h1.free i
theorem Gz.head (h : Gz w5 W a k m ab cA lb cL gb hsA gs S) (ha : a.length = k) (hm : ∀ i, i < k → (row a i).length = m) {i : Nat} (hi : i < k + 2) : ∃ A c, W.cell? ⟨lb, i, none⟩ = some (.slice A (if i ∈ S then 0 else m : Nat) c) := by
  obtain ⟨hsL, l, h1, h2, h3⟩ := h
  obtain ⟨x, hx⟩ : ∃ x, hsL[i]? = some x := ⟨_, List.getElem?_eq_getElem (by rw [h1.lenL]; exact hi)⟩
  have := h1.head hi hx
  rw [(h2.2 i x hx).1, h3.lens ha hm i hi] at this
  exact ⟨_, _, this⟩
theorem Gz.put (h : Gz w5 W a k m ab cA lb cL gb hsA gs S) {i : Nat} (hi : i < k + 2) (hn : i ∉ S) : Gz w5 (W.setCell ⟨lb, i, none⟩ (.slice none 0 0)) a k m ab cA lb cL gb hsA gs (i :: S) := by
  obtain ⟨hsL, l, h1, h2, h3⟩ := h
  exact ⟨_, _, h1.put i, h2.gone i, h3.step hi hn⟩
theorem Gz.few {g : Nat} (h : Gz w5 W a k m ab cA lb cL gb hsA gs S) (hc : CodeAt w5 g k) (hk : 1 ≤ k) (hk2 : k ≤ 32) (hm0 : 0 < m) (hm9 : m ≤ 1000000) (ha : a.length = k) (oka : okB a = true) (hm : ∀ i, i < k → (row a i).length = m) (hS : S.length ≤ 2) : Calls Try.prog 12 #[.pointer (some ⟨g, 0, none⟩), .slice (some ⟨lb, 0, none⟩) (k + 2 : Nat) cL] W (AnyQ a k m W) := by
  obtain ⟨hsL, l, h1, h2, h3⟩ := h
  have h4 := KH_len2 h1.lst h1.lenL
  exact any_few W g k m (hc.below h1.below) hk hk2 _ cL a l S (KR_of_KH h4.1 (h2.below h1.below)) h4.2 hm0 hm9 ha oka hm h3 hS
theorem Gz.same {W' : World} {ob cap : Nat} (h : Gz w5 W a k m ab cA lb cL gb hsA gs S) (hr : Rows w5 hsA (allL a k m)) (hb : Below W.heap.size W W') (hx : KR.C W' (some ⟨ob, 0, none⟩) (k + 2) (allL a k m)) (hc : k + 2 ≤ cap) (hk2 : k ≤ 32) : Calls Try.prog 13 #[.slice (some ⟨ob, 0, none⟩) (k + 2 : Nat) cap, .slice (some ⟨ab, 0, none⟩) (k + 2 : Nat) cA] W' fun e w' => e = .returned (.bool true) ∧ Below W'.heap.size W' w' := by
  obtain ⟨hsL, l, h1, h2, h3⟩ := h.move hb
  have h4 := KH_len2 h1.all h1.lenA
  have := same13 W' (k + 2) (some ⟨ob, 0, none⟩) (some ⟨ab, 0, none⟩) cap cA (allL a k m) hx (KR_of_KH h4.1 (hr.below h1.below)) hc h4.2 (by omega)
  exact this
end Go.Proofs.Ytjolnjckgoilpaa.Rs
end

section
/-
  The reference's code in plain words: parity, Parity, which shards are there.
-/
set_option linter.unusedVariables false
set_option linter.unusedSimpArgs false
namespace Go.Proofs.Ytjolnjckgoilpaa.Rs
open Go.RowKit Go.Proofs.YtjolnjckgoilpaaW.PrintWords Go.Proofs.YtjolnjckgoilpaaW.PrintLast Go.Proofs.YtjolnjckgoilpaaW.PrintMore Go.Proofs.Ytjolnjckgoilpaa.PRa Go.Proofs.Ytjolnjckgoilpaa.Gf
theorem rowL_set {m i v : Nat} {f : Nat → Nat} : (rowL m f).set i ((v : Nat) : Int) = rowL m fun x => if x = i then v else f x := by
  refine List.ext_getElem (by simp [rowL]) fun x h1 h2 => ?_
  have h3 : x < m := by simpa [rowL] using h2
  rw [List.getElem_set]
  by_cases e : i = x
  · subst e; simp [rowL]
  · rw [if_neg e]
    simp only [rowL, List.getElem_map, List.getElem_range]
    rw [if_neg (fun h => e h.symm)]
theorem rowL_rd {m i : Nat} {f : Nat → Nat} (hi : i < m) : rd (rowL m f) (i : Int) = ((f i : Nat) : Int) := by
  simp [rd, rowL, List.getD, hi]
theorem rd_L1_row (l : List (List Int)) (i : Nat) : rd_L1 l (i : Int) = row l i := by simp [rd_L1, row]
theorem rd_byt {l : List (List Int)} (ok : okB l = true) (i j : Nat) : rd (row l i) (j : Int) = ((byt l i j : Nat) : Int) := by
  rw [← (okB_at ok i j).2]; simp [rd]
/-- A column's sum so far. -/
def parP (D : List (List Int)) (k r i j x : Nat) : Nat := if x < i then tcol (rho r) D k x else if x = i then tcol (rho r) D j x else 0
theorem parity_l1 (D : List (List Int)) (k m i K0 : Nat) (hD : D.length = k) (ok : okB D = true) (hm : ∀ q, q < k → (row D q).length = m) (hk : k ≤ 1000) (hi : i < m) (hm9 : m ≤ 1000000) (R : Option (List (List Int)))
    (hnext : ∀ K, K0 < K → flintref6_parity.l0 K D (rowL m (parP D k 0 (i + 1) 0)) (rowL m (parP D k 1 (i + 1) 0)) ((i + 1 : Nat) : Int) = R) :
    ∀ d K j : Nat, d + j = k → d + 1 + 20 + K0 < K → flintref6_parity.l1 K D (rowL m (parP D k 0 i j)) (rowL m (parP D k 1 i j)) i ((GfM.g j : Nat) : Int) j = R := by
  intro d
  induction d with
  | zero =>
    intro K j hd hK
    obtain ⟨K, rfl⟩ : ∃ n, K = n + 1 := ⟨K - 1, by omega⟩
    simp only [flintref6_parity.l1]
    rw [if_neg (by omega), wrap_inc _ (by omega) (by omega)]
    have e : ∀ r, rowL m (parP D k r i j) = rowL m (parP D k r (i + 1) 0) := fun r => rowL_congr fun x hx => by
      unfold parP
      by_cases h1 : x < i
      · rw [if_pos h1, if_pos (by omega)]
      · by_cases h2 : x = i
        · rw [if_neg h1, if_pos h2, if_pos (by omega), show j = k by omega]
        · rw [if_neg h1, if_neg h2, if_neg (by omega)]
          by_cases h3 : x = i + 1
          · rw [if_pos h3]; rfl
          · rw [if_neg h3]
    rw [e 0, e 1]
    exact hnext K (by omega)
  | succ d ih =>
    intro K j hd hK
    obtain ⟨K, rfl⟩ : ∃ n, K = n + 1 := ⟨K - 1, by omega⟩
    simp only [flintref6_parity.l1]
    rw [if_pos (by omega), if_pos (by omega), rowL_length, if_pos (by omega), if_pos (by omega), rd_L1_row, hm j (by omega), if_pos (by omega), rowL_length, if_pos (by omega), rd_byt ok, GaFacts.rmul_ok K (GfM.g j) _ (by omega) (GfM.g_lt j) (okB_at ok j i).1]
    simp only [Option.bind_some]
    rw [show (2 : Int) = ((2 : Nat) : Int) from rfl, GaFacts.rmul_ok K (GfM.g j) 2 (by omega) (GfM.g_lt j) (by omega)]
    simp only [Option.bind_some]
    rw [wrap_inc _ (by omega) (by omega), rowL_rd hi, rowL_rd hi, Int.toNat_natCast]
    have hl : ∀ r j, parP D k r i j i < 256 := fun r j => by
      unfold parP
      rw [if_neg (by omega), if_pos rfl]
      exact sx_lt _ _ fun q _ => GfM.M_lt _ _ (GfM.g_lt _)
    rw [PRa.xor_nat _ _ (hl 0 j) (okB_at ok j i).1, PRa.xor_nat _ _ (hl 1 j) (GfM.M_lt _ _ (GfM.g_lt j)), rowL_set, rowL_set, show GfM.M (GfM.g j) 2 = GfM.g (j + 1) from GfM.g_add j 1]
    have e0 : rowL m (fun x => if x = i then parP D k 0 i j i ^^^ byt D j i else parP D k 0 i j x) = rowL m (parP D k 0 i (j + 1)) := rowL_congr fun x hx => by
      by_cases h : x = i
      · subst h
        rw [if_pos rfl]
        unfold parP
        rw [if_neg (by omega), if_pos rfl, if_neg (by omega), if_pos rfl]
        show _ = tcol (rho 0) D j x ^^^ GfM.M (rho 0 j) (byt D j x)
        rw [show rho 0 j = 1 by unfold rho; rw [Nat.zero_mul]; rfl, M_one_left _ (okB_at ok j x).1]
      · rw [if_neg h]; unfold parP; rw [if_neg h, if_neg h]
    have e1 : rowL m (fun x => if x = i then parP D k 1 i j i ^^^ GfM.M (GfM.g j) (byt D j i) else parP D k 1 i j x) = rowL m (parP D k 1 i (j + 1)) := rowL_congr fun x hx => by
      by_cases h : x = i
      · subst h
        rw [if_pos rfl]
        unfold parP
        rw [if_neg (by omega), if_pos rfl, if_neg (by omega), if_pos rfl]
        show _ = tcol (rho 1) D j x ^^^ GfM.M (rho 1 j) (byt D j x)
        rw [show rho 1 j = GfM.g j by unfold rho; rw [Nat.one_mul]]
      · rw [if_neg h]; unfold parP; rw [if_neg h, if_neg h]
    rw [e0, e1]
    exact ih K (j + 1) (by omega) (by omega)
theorem parity_l0 (D : List (List Int)) (k m : Nat) (hD : D.length = k) (ok : okB D = true) (hm : ∀ q, q < k → (row D q).length = m) (hk : k ≤ 1000) (hm9 : m ≤ 1000000) :
    ∀ e i K : Nat, e + i = m → e * (k + 30) + 20 < K → flintref6_parity.l0 K D (rowL m (parP D k 0 i 0)) (rowL m (parP D k 1 i 0)) i = some [rowL m (tcol (rho 0) D k), rowL m (tcol (rho 1) D k)] := by
  intro e
  induction e with
  | zero =>
    intro i K he hK
    obtain ⟨K, rfl⟩ : ∃ n, K = n + 1 := ⟨K - 1, by omega⟩
    simp only [flintref6_parity.l0]
    rw [rowL_length, if_neg (by omega)]
    have q : ∀ r, rowL m (parP D k r i 0) = rowL m (tcol (rho r) D k) := fun r => rowL_congr fun x hx => by unfold parP; rw [if_pos (by omega)]
    rw [q 0, q 1]
  | succ e ih =>
    intro i K he hK
    obtain ⟨K, rfl⟩ : ∃ n, K = n + 1 := ⟨K - 1, by omega⟩
    simp only [flintref6_parity.l0]
    rw [rowL_length, if_pos (by omega)]
    rw [Nat.succ_mul] at hK
    exact parity_l1 D k m i (e * (k + 30) + 20) hD ok hm hk (by omega) hm9 _ (fun K hK => ih (i + 1) K (by omega) hK) k K 0 (by omega) (by omega)
theorem rowL_zero (m : Nat) : List.replicate m (0 : Int) = rowL m fun _ => 0 := by
  refine List.ext_getElem (by simp [rowL]) fun x h1 h2 => by simp [rowL]
theorem parity_ok (K : Nat) (D : List (List Int)) (k m : Nat) (hD : D.length = k) (ok : okB D = true) (hm : ∀ q, q < k → (row D q).length = m) (hk1 : 1 ≤ k) (hk : k ≤ 1000) (hm9 : m ≤ 1000000) (hK : m * (k + 30) + 20 < K) : flintref6_parity.f K D = some [rowL m (tcol (rho 0) D k), rowL m (tcol (rho 1) D k)] := by
  unfold flintref6_parity.f
  rw [if_pos (by omega), show rd_L1 D 0 = row D 0 from rd_L1_row D 0, hm 0 (by omega), if_pos (by omega), Int.toNat_natCast, if_pos (by omega), rowL_zero]
  have q : ∀ r, rowL m (fun _ => 0) = rowL m (parP D k r 0 0) := fun r => rowL_congr fun x hx => by
    unfold parP
    rw [if_neg (by omega)]
    split <;> rfl
  have := parity_l0 D k m hD ok hm hk hm9 m 0 K (by omega) hK
  rw [← q 0, ← q 1] at this
  exact this
/-- Parity, where the shards are alike. -/
theorem Parity_l0 (D : List (List Int)) (k m : Nat) (hD : D.length = k) (hk1 : 1 ≤ k) (hk : k ≤ 1000) (R : List (List Int)) (hm : ∀ q, q < k → (row D q).length = m) (K0 : Nat) (hR : ∀ K, K0 < K → flintref6_parity.f K D = some R) : ∀ d K i : Nat, d + i = k → d + 1 + K0 < K → flintref6_Parity.l0 K k D i = some (R, 0) := by
  intro d
  induction d with
  | zero =>
    intro K i hd hK
    obtain ⟨K, rfl⟩ : ∃ n, K = n + 1 := ⟨K - 1, by omega⟩
    simp only [flintref6_Parity.l0]
    rw [if_neg (by omega), hR K (by omega)]
    rfl
  | succ d ih =>
    intro K i hd hK
    obtain ⟨K, rfl⟩ : ∃ n, K = n + 1 := ⟨K - 1, by omega⟩
    simp only [flintref6_Parity.l0]
    rw [if_pos (by omega), if_pos (by omega), if_pos (by omega), if_pos (by omega), rd_L1_row, show rd_L1 D 0 = row D 0 from rd_L1_row D 0, hm i (by omega), hm 0 (by omega), if_pos rfl, wrap_inc _ (by omega) (by omega)]
    exact ih K (i + 1) (by omega) (by omega)
theorem Parity_bad (D : List (List Int)) (k : Nat) (hD : D.length = k) (hk1 : 1 ≤ k) (hk : k ≤ 1000) (q : Nat) (hq : q < k) (hne : (row D q).length ≠ (row D 0).length) : ∀ d K i : Nat, d + i = q → d + 1 < K → flintref6_Parity.l0 K k D i = some ([], 1) := by
  intro d
  induction d with
  | zero =>
    intro K i hd hK
    obtain ⟨K, rfl⟩ : ∃ n, K = n + 1 := ⟨K - 1, by omega⟩
    simp only [flintref6_Parity.l0]
    rw [if_pos (by omega), if_pos (by omega), if_pos (by omega), if_pos (by omega), rd_L1_row, show rd_L1 D 0 = row D 0 from rd_L1_row D 0, if_neg (by rw [show i = q by omega]; omega)]
  | succ d ih =>
    intro K i hd hK
    obtain ⟨K, rfl⟩ : ∃ n, K = n + 1 := ⟨K - 1, by omega⟩
    simp only [flintref6_Parity.l0]
    rw [if_pos (by omega), if_pos (by omega), if_pos (by omega), if_pos (by omega), rd_L1_row, show rd_L1 D 0 = row D 0 from rd_L1_row D 0, wrap_inc _ (by omega) (by omega)]
    split
    · exact ih K (i + 1) (by omega) (by omega)
    · rfl
/-- Are there so many shards, of one length that is not 0? -/
def parB (k : Nat) (D : List (List Int)) : Bool := decide (D.length = k) && decide ((row D 0).length ≠ 0) && (List.range k).all fun q => decide ((row D q).length = (row D 0).length)
theorem Parity_ok (K : Nat) (D : List (List Int)) (k : Nat) (ok : okB D = true) (hk1 : 1 ≤ k) (hk : k ≤ 1000) (hm9 : (row D 0).length ≤ 1000000) (hK : (row D 0).length * (k + 30) + k + 100 < K) :
    flintref6_Parity.f K k D = some (if parB k D = true then ([rowL (row D 0).length (tcol (rho 0) D k), rowL (row D 0).length (tcol (rho 1) D k)], 0) else ([], 1)) := by
  unfold flintref6_Parity.f
  have j1 : ∀ K, 0 < K → flintref6_Parity.j0 K k D true = some ([], 1) := fun K h => by
    obtain ⟨K, rfl⟩ : ∃ n, K = n + 1 := ⟨K - 1, by omega⟩
    simp [flintref6_Parity.j0]
  by_cases h1 : D.length = k
  · rw [if_pos (by omega), if_pos (by omega), show rd_L1 D 0 = row D 0 from rd_L1_row D 0]
    by_cases h2 : (row D 0).length = 0
    · rw [show ((((row D 0).length : Nat) : Int) == 0) = true by simp [h2], j1 K (by omega), if_neg (by simp [parB, h2])]
    · have e : ((((row D 0).length : Nat) : Int) == 0) = false := beq_eq_false_iff_ne.mpr (by omega)
      rw [e]
      obtain ⟨K, rfl⟩ : ∃ n, K = n + 1 := ⟨K - 1, by omega⟩
      simp only [flintref6_Parity.j0]
      rw [if_neg (by simp)]
      by_cases h3 : ∀ q, q < k → (row D q).length = (row D 0).length
      · rw [if_pos (by simp only [parB, Bool.and_eq_true, decide_eq_true_eq, List.all_eq_true, List.mem_range]; exact ⟨⟨h1, h2⟩, h3⟩)]
        exact Parity_l0 D k _ h1 hk1 hk _ h3 ((row D 0).length * (k + 30) + 20) (fun K hK => parity_ok K D k _ h1 ok h3 hk1 hk hm9 hK) (k - 1) K 1 (by omega) (by omega)
      · rw [if_neg (by simp only [parB, Bool.and_eq_true, decide_eq_true_eq, List.all_eq_true, List.mem_range]; exact fun h => h3 h.2)]
        obtain ⟨q, hq⟩ := Classical.not_forall.mp h3
        rw [Classical.not_imp] at hq
        have hq0 : q ≠ 0 := fun e => hq.2 (by rw [e])
        have := hq.1
        exact Parity_bad D k h1 hk1 hk q hq.1 hq.2 (q - 1) K 1 (by omega) (by omega)
  · rw [if_neg (by omega), j1 K (by omega), if_neg (by simp [parB, h1])]
/-- The numbers of those that are there, of the first i. -/
def presN (l : List (List Int)) (i : Nat) : List Nat := (List.range i).filter fun q => decide (pres l q)
def presI (l : List (List Int)) (i : Nat) : List Int := (presN l i).map fun q : Nat => (q : Int)
theorem presI_yes {l : List (List Int)} {i : Nat} (h : pres l i) : presI l i ++ [(i : Int)] = presI l (i + 1) := by
  unfold presI presN
  rw [List.range_succ, List.filter_append, List.map_append]
  simp [h]
theorem presI_no {l : List (List Int)} {i : Nat} (h : ¬ pres l i) : presI l i = presI l (i + 1) := by
  unfold presI presN
  rw [List.range_succ, List.filter_append, List.map_append]
  simp [h]
theorem presN_le (l : List (List Int)) (i : Nat) : (presN l i).length ≤ i := by
  have := List.length_filter_le (fun q => decide (pres l q)) (List.range i)
  rw [List.length_range] at this
  exact this
theorem presI_le (l : List (List Int)) (i : Nat) : (presI l i).length ≤ i := by
  unfold presI
  rw [List.length_map]
  exact presN_le l i
/-- The length of those that are there. -/
def sizeL : Nat → List (List Int) → Nat
  | s, [] => s
  | s, x :: l => sizeL (max s x.length) l
theorem drop_at {l : List (List Int)} {i : Nat} (h : i < l.length) : l.drop i = row l i :: l.drop (i + 1) := by
  rw [List.drop_eq_getElem_cons h]
  simp [row, List.getD, h]
theorem sizes_skip {s : Nat} {x : List Int} {l : List (List Int)} (h : x.length = 0) : sizesB s (x :: l) = sizesB s l ∧ sizeL s (x :: l) = sizeL s l := by
  simp only [sizesB, sizeL, h]
  simp
theorem sizes_take {s : Nat} {x : List Int} {l : List (List Int)} (h : s = 0 ∨ s = x.length) : sizesB s (x :: l) = sizesB x.length l ∧ sizeL s (x :: l) = sizeL x.length l := by
  simp only [sizesB, sizeL]
  rcases h with rfl | rfl
  · simp
  · simp
theorem sizes_bad {s : Nat} {x : List Int} {l : List (List Int)} (h : x.length ≠ 0) (h1 : s ≠ 0) (h2 : x.length ≠ s) : sizesB s (x :: l) = false := by
  simp only [sizesB]
  rw [decide_eq_true (show 0 < x.length by omega), decide_eq_true (show 0 < s by omega), decide_eq_true h2]
  rfl
def thR (b : Bool) (x : List Int × Int × Int) : List Int × Int × Int := if b = true then x else ([], 0, 1)
theorem there_l0 (l : List (List Int)) (hl : l.length ≤ 1000000) : ∀ d K i s : Nat, d + i = l.length → d < K → flintref6_there.l0 K l s (presI l i) i = some (thR (sizesB s (l.drop i)) (presI l l.length, ((sizeL s (l.drop i) : Nat) : Int), 0)) := by
  intro d
  induction d with
  | zero =>
    intro K i s hd hK
    obtain ⟨K, rfl⟩ : ∃ n, K = n + 1 := ⟨K - 1, by omega⟩
    simp only [flintref6_there.l0]
    rw [if_neg (by omega), List.drop_of_length_le (by omega), show i = l.length by omega]
    rfl
  | succ d ih =>
    intro K i s hd hK
    obtain ⟨K, rfl⟩ : ∃ n, K = n + 1 := ⟨K - 1, by omega⟩
    have hi : i < l.length := by omega
    have hp := presI_le l i
    simp only [flintref6_there.l0]
    rw [if_pos (by omega), if_pos (by omega), rd_L1_row, wrap_inc _ (by omega) (by omega), drop_at hi]
    by_cases h0 : (row l i).length = 0
    · rw [if_pos (by omega), presI_no (show ¬ pres l i from fun h => h h0), (sizes_skip h0).1, (sizes_skip h0).2]
      exact ih K (i + 1) s (by omega) (by omega)
    · rw [if_neg (by omega), if_pos (show (presI l i).length < 17592186044416 by omega), presI_yes (show pres l i from h0)]
      by_cases h1 : s = 0
      · rw [if_pos (by omega), (sizes_take (.inl h1)).1, (sizes_take (.inl h1)).2]
        exact ih K (i + 1) _ (by omega) (by omega)
      · rw [if_neg (by omega)]
        by_cases h2 : (row l i).length = s
        · rw [if_pos (by omega), (sizes_take (.inr h2.symm)).1, (sizes_take (.inr h2.symm)).2]
          exact ih K (i + 1) _ (by omega) (by omega)
        · rw [if_neg (by omega), sizes_bad h0 h1 h2]
          rfl
theorem there_ok (K k : Nat) (l : List (List Int)) (hk : k ≤ 1000) (hl : l.length ≤ 1000000) (hK : l.length + 10 < K) : flintref6_there.f K k l = some (thR (decide (l.length = k + 2) && sizesB 0 l) (presI l l.length, ((sizeL 0 l : Nat) : Int), 0)) := by
  unfold flintref6_there.f
  rw [show wrap64 ((k : Int) + 2) = (k : Int) + 2 by unfold wrap64; omega]
  by_cases h : l.length = k + 2
  · rw [if_pos (by omega), decide_eq_true h, Bool.true_and]
    have := there_l0 l hl l.length K 0 0 (by omega) (by omega)
    rw [show presI l 0 = [] from rfl, List.drop_zero] at this
    exact this
  · rw [if_neg (by omega), decide_eq_false h, Bool.false_and]
    rfl
theorem sizeL_some (m : Nat) : ∀ (l : List (List Int)) (s : Nat), (s = 0 ∨ s = m) → (∀ x ∈ l, x.length = 0 ∨ x.length = m) → (s = m ∨ ∃ x ∈ l, x.length = m) → sizeL s l = m := by
  intro l
  induction l with
  | nil =>
    intro s hs h h2
    rcases h2 with h2 | ⟨x, hx, _⟩
    · exact h2
    · cases hx
  | cons x l ih =>
    intro s hs h h2
    simp only [sizeL]
    have hx := h x List.mem_cons_self
    have hm : max s x.length = 0 ∨ max s x.length = m := by rcases hs with e | e <;> rcases hx with e2 | e2 <;> rw [e, e2] <;> simp
    refine ih _ hm (fun y hy => h y (List.mem_cons_of_mem _ hy)) ?_
    rcases h2 with h2 | ⟨y, hy, h3⟩
    · exact .inl (by omega)
    · rcases List.mem_cons.mp hy with e | e
      · subst e; exact .inl (by omega)
      · exact .inr ⟨y, e, h3⟩
end Go.Proofs.Ytjolnjckgoilpaa.Rs
end

section
/-
  What the reference's Rebuild works with: the inverse's rows, headers of rows that are only read, the rows that it tells.
-/
set_option linter.unusedVariables false
set_option linter.unusedSimpArgs false
namespace Go.Proofs.Ytjolnjckgoilpaa.Rs
open Go.RowKit Go.Proofs.YtjolnjckgoilpaaW.PrintWords Go.Proofs.YtjolnjckgoilpaaW.PrintLast Go.Proofs.YtjolnjckgoilpaaW.PrintMore Go.Proofs.Ytjolnjckgoilpaa.PRa Go.Proofs.Ytjolnjckgoilpaa.Gf
theorem row_matrix_ext {n : Nat} {f g : Nat → Nat → Nat} (h : (matrix n n fun i j => ((f i j : Nat) : Int)) = matrix n n fun i j => ((g i j : Nat) : Int)) {i j : Nat} (hi : i < n) (hj : j < n) : f i j = g i j := by
  have := byt_matrix (h := f) hi hj
  rw [h, byt_matrix (h := g) hi hj] at this
  exact this.symm
/-- Inverse, where the matrix has one: its rows. -/
theorem inv37_some (w : World) (l : List (List Int)) (A : Option Addr) (c k : Nat) (hk : l.length = k) (hM : KR.C w A k l) (hc : k ≤ c) (f : Nat → Nat → Nat) (hinv : invF l = some (matrix k k fun i j => ((f i j : Nat) : Int), 0)) :
    Calls Try.prog 37 #[.slice A k c] w fun e w' => ∃ go gco bo co, e = .returned (.tuple #[.slice (some ⟨go, 0, none⟩) k gco, .int .i64 0]) ∧ GridG w' go gco k bo co f ∧ Below w.heap.size w w' := by
  unfold invF at hinv
  by_cases ok : okB l = true
  · rw [if_pos ok] at hinv
    by_cases hm : rightB l = true ∧ l.length = (row l 0).length
    · rw [if_pos hm] at hinv
      refine (inv37_ok w l A c k (by rw [hk]; exact hM) (by omega) ok hm.1 hk (by omega)).mono ?_
      rintro e w' (⟨hg, rfl, hb⟩ | ⟨ga, gca, go, gco, ba, ca, bo, co, s, hg, rfl, hS⟩)
      · rw [hk, hg] at hinv
        simp at hinv
      · rw [hk, hg] at hinv
        simp only [Option.some.injEq, Prod.mk.injEq, and_true] at hinv
        have hG := hS.o.grid
        exact ⟨go, gco, bo, co, rfl, ⟨hG.top, fun j hj => (hG.row j hj).same fun q hq => row_matrix_ext hinv hj hq, hG.inj⟩, hS.below⟩
    · rw [if_neg hm] at hinv
      simp at hinv
  · rw [if_neg ok] at hinv
    simp at hinv
/-- Headers of rows that lie in ok. -/
theorem hdr_F {W : World} {ok : Nat → Prop} {A : Option Addr} {n : Nat} {T : List (List Int)} (h : Kd.F KR W ok A n T) : ∃ hs : List Hd, KH.C W A n hs ∧ hs.length = T.length ∧ ∀ (i : Nat) (x : Hd), hs[i]? = some x → x.2.1 = (row T i).length ∧ x.2.1 ≤ x.2.2 ∧ Kd.F KB W ok x.1 x.2.1 (row T i) := by
  obtain ⟨hs, h1, h2⟩ := KH_of_KR (Kd.F_now h)
  refine ⟨hs, h1, h2.1, fun i x hx => ?_⟩
  have hi : i < n := by
    have := (List.getElem?_eq_some_iff.1 hx).1
    rw [h2.1, Kd.C_len (Kd.F_now h)] at this
    exact this
  obtain ⟨h3, h4, _⟩ := h2.2 i x hx
  refine ⟨h3, h4, ?_⟩
  obtain ⟨ad, c, rfl, hcl, hK, hcc, _⟩ := Kd.F_get h ([] : List Int) (i : Int) (by omega) (by omega)
  obtain ⟨A', c', rfl, h6, h7⟩ := Kd.FK_slice_open hK
  have h8 := hcc 0 _ rfl
  rw [Int.toNat_natCast, show i * Kd.sz KR + 0 = i by simp [KR, Kd.slice]] at h8
  have h9 := KH_atA h1 hi hx
  rw [h8] at h9
  obtain ⟨xA, xn, xc⟩ := x
  have h10 := Option.some.inj h9
  simp only [Value.slice.injEq] at h10
  obtain ⟨rfl, rfl, rfl⟩ := h10
  have e : T.getD (i : Int).toNat [] = row T i := by rw [Int.toNat_natCast]; rfl
  rw [e] at h7
  exact h7
/-- Rows that are own ones, or lie where nothing is written any more. -/
structure OutM (w7 W : World) (base : Nat) (hs : List Hd) (l : List (List Int)) : Prop where
  len : hs.length = l.length
  rows : ∀ (i : Nat) (x : Hd), hs[i]? = some x → x.2.1 = (row l i).length ∧ x.2.1 ≤ x.2.2 ∧ (KB.R 5 W base (fun _ => True) (.slice x.1 x.2.1 x.2.2) (row l i) ∨ KB.C w7 x.1 x.2.1 (row l i))
theorem OutM.nil (w7 W : World) (base : Nat) : OutM w7 W base [] [] := ⟨rfl, fun i x hx => by simp at hx⟩
theorem OutM.move {w7 W W1 : World} {base : Nat} {hs : List Hd} {l : List (List Int)} (h : OutM w7 W base hs l) (hm : ∀ v xs, KB.R 5 W base (fun _ => True) v xs → KB.R 5 W1 base (fun _ => True) v xs) : OutM w7 W1 base hs l :=
  ⟨h.len, fun i x hx => by obtain ⟨h1, h2, h3⟩ := h.rows i x hx; exact ⟨h1, h2, h3.imp (hm _ _) id⟩⟩
theorem OutM.below {w7 W W1 : World} {base : Nat} {hs : List Hd} {l : List (List Int)} (h : OutM w7 W base hs l) (hb : Below W.heap.size W W1) : OutM w7 W1 base hs l := h.move fun _ _ h => Kd.R_below h hb
theorem OutM.over {w7 W W1 : World} {base base' : Nat} {hs hs' : List Hd} {l : List (List Int)} {v : Value} {ok : Nat → Prop} (h : OutM w7 W base hs l) (hv : KH.R 25 W base' ok v hs') (hg : W.grownBy W1 v.ownBlock) : OutM w7 W1 base hs l := h.move fun _ _ h => Kd.R_over h hv (by simp [KB, Kd.int, Kd.scalar]) hg
theorem OutM.grown {w7 W W1 : World} {base : Nat} {hs : List Hd} {l : List (List Int)} {o : Obj} (h : OutM w7 W base hs l) (hg : (W.alloc o).grownBy W1 (some W.heap.size)) : OutM w7 W1 base hs l :=
  h.move fun _ _ h => Kd.R_mono (Kd.R_grown (ok := fun k => True ∧ k ≠ W.heap.size) (Kd.R_alloc (Kd.R_elderB h W.heap.size (Nat.le_refl _)) o) hg (fun k hk e => hk.2 (by injection e))) (fun _ _ => trivial)
theorem OutM.snoc {w7 W : World} {base : Nat} {y : Hd} {hs : List Hd} {l : List (List Int)} {x : List Int} (h : OutM w7 W base hs l) (h1 : y.2.1 = x.length) (hc : y.2.1 ≤ y.2.2) (hR : KB.R 5 W base (fun _ => True) (.slice y.1 y.2.1 y.2.2) x ∨ KB.C w7 y.1 y.2.1 x) : OutM w7 W base (hs ++ [y]) (l ++ [x]) := by
  refine ⟨by simp [h.len], fun i z hz => ?_⟩
  rcases Nat.lt_or_ge i hs.length with hi | hi
  · rw [List.getElem?_append_left hi] at hz
    have e : row (l ++ [x]) i = row l i := by
      unfold row
      rw [List.getD_eq_getElem?_getD, List.getElem?_append_left (by rw [← h.len]; exact hi), List.getD_eq_getElem?_getD]
    rw [e]
    exact h.rows i z hz
  · rw [List.getElem?_append_right hi] at hz
    have hi0 : i - hs.length = 0 := by
      have := (List.getElem?_eq_some_iff.1 hz).1
      simp at this
      omega
    rw [hi0] at hz
    obtain rfl := Option.some.inj hz
    have e : row (l ++ [x]) i = x := by
      unfold row
      rw [List.getD_eq_getElem?_getD, List.getElem?_append_right (by rw [← h.len]; exact hi), ← h.len, hi0]
      rfl
    rw [e]
    exact ⟨h1, hc, hR⟩
theorem OutM.toRows {w7 W : World} {base : Nat} {hs : List Hd} {l : List (List Int)} (h : OutM w7 W base hs l) (hb : Below w7.heap.size w7 W) : Rows W hs l := ⟨h.len, fun i x hx => by
  obtain ⟨h1, h2, h3⟩ := h.rows i x hx
  refine ⟨h1, h2, ?_⟩
  rcases h3 with h3 | h3
  · have e : KB.R 5 W base (fun _ => True) (.slice x.1 (row l i).length x.2.2) (row l i) := by rw [← h1]; exact h3
    rw [h1]
    exact (Kd.R_reads' e).2.2
  · exact Kd.C_below h3 hb⟩
/-- The data, made again. -/
def datL (s : Nat → Nat → Nat) (l : List (List Int)) (n k m : Nat) : List (List Int) := (List.range k).map fun j => rowL m (tcol (s j) (someL l n k) k)
theorem datL_len {s : Nat → Nat → Nat} {l : List (List Int)} {n k m : Nat} : (datL s l n k m).length = k := by simp [datL]
theorem datL_row {s : Nat → Nat → Nat} {l : List (List Int)} {n k m j : Nat} (hj : j < k) : row (datL s l n k m) j = rowL m (tcol (s j) (someL l n k) k) := by simp [datL, row, List.getD, hj]
theorem datL_take {s : Nat → Nat → Nat} {l : List (List Int)} {n k m j : Nat} (hj : j < k) : (datL s l n k m).take (j + 1) = (datL s l n k m).take j ++ [rowL m (tcol (s j) (someL l n k) k)] := by
  rw [List.take_succ_eq_append_getElem (by rw [datL_len]; exact hj)]
  simp [datL]
theorem datL_ok {s : Nat → Nat → Nat} {l : List (List Int)} {n k m : Nat} (hs : B8 s) : okB (datL s l n k m) = true := by
  unfold okB datL
  rw [List.all_eq_true]
  intro r hr
  obtain ⟨j, _, rfl⟩ := List.mem_map.mp hr
  exact rowL_ok fun x => tcol_lt (hs j) k x
/-- What the reference tells. -/
def outL (s : Nat → Nat → Nat) (l : List (List Int)) (n k m : Nat) : List (List Int) := (List.range n).map fun i => if pres l i then row l i else row (allL (datL s l n k m) k m) i
theorem outL_len {s : Nat → Nat → Nat} {l : List (List Int)} {n k m : Nat} : (outL s l n k m).length = n := by simp [outL]
theorem outL_row {s : Nat → Nat → Nat} {l : List (List Int)} {n k m i : Nat} (hi : i < n) : row (outL s l n k m) i = if pres l i then row l i else row (allL (datL s l n k m) k m) i := by simp [outL, row, List.getD, hi]
theorem outL_take {s : Nat → Nat → Nat} {l : List (List Int)} {n k m i : Nat} (hi : i < n) : (outL s l n k m).take (i + 1) = (outL s l n k m).take i ++ [if pres l i then row l i else row (allL (datL s l n k m) k m) i] := by
  rw [List.take_succ_eq_append_getElem (by rw [outL_len]; exact hi)]
  simp [outL]
/-- The reference's rows are the program's. -/
theorem out_reb {s : Nat → Nat → Nat} {l : List (List Int)} {n k m : Nat} (hl : l.length = n) (hn : n = k + 2) (hmiss : (missL l).length ≤ 2) (hs : B8 s) (ok : okB l = true) (hm0 : 0 < m) {i : Nat} (hi : i < n) : row (outL s l n k m) i = rebL l n k m (fun i j => sx k fun q => GfM.M (allN k i q) (s q j)) i := by
  rw [outL_row hi]
  unfold rebL
  by_cases hp : pres l i
  · rw [if_pos hp, if_pos hp]
  · rw [if_neg hp, if_neg hp]
    have hd := datL_len (s := s) (l := l) (n := n) (k := k) (m := m)
    have hdo := datL_ok (l := l) (n := n) (k := k) (m := m) hs
    have hdl : ∀ i, i < k → (row (datL s l n k m) i).length = m := fun i hi => by rw [datL_row hi, rowL_length]
    have hrl := allL_lens (m := m) hd hdl i (by omega)
    refine List.ext_getElem (by rw [rowL_length, hrl]) fun x h1 h2 => ?_
    rw [hrl] at h1
    have hb8 : ∀ q, byt (someL l n k) q x < 256 := fun q => (okB_at (ok_rows ok _) q x).1
    have e1 : byt (allL (datL s l n k m) k m) i x = tcol (fun j => sx k fun q => GfM.M (allN k i q) (s q j)) (someL l n k) k x := by
      rw [all_col hd hdo (by omega) h1]
      refine (mv_congr (b := allN k) (y := fun q => mv k s (fun j => byt (someL l n k) j x) q) (fun _ _ => rfl) fun q hq => ?_).trans ?_
      · exact byt_isL (datL_row hq) h1
      · exact (mm_mv k (allN k) s _ (allN_lt k) hs hb8 i).symm
    have e3 : (rowL m (tcol (fun j => sx k fun q => GfM.M (allN k i q) (s q j)) (someL l n k) k))[x] = ((byt (allL (datL s l n k m) k m) i x : Nat) : Int) := by
      rw [e1]
      simp [rowL]
    rw [e3, ← (okB_at (allL_ok (k := k) (m := m) hdo) i x).2]
    simp [List.getD, hrl, h1]
end Go.Proofs.Ytjolnjckgoilpaa.Rs
end
