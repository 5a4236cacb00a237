/-
  A code's shards of which some are left out, in turn: the plain facts and the state in memory.
-/
import Derived.Test.YtjolnjckgoilpaaMMin
set_option linter.unusedVariables false
set_option linter.unusedSimpArgs false
namespace Go.Proofs.Ytjolnjckgoilpaa.Rs
open Go.RowKit Go.Proofs.YtjolnjckgoilpaaW.PrintWords Go.Proofs.YtjolnjckgoilpaaW.PrintLast Go.Proofs.YtjolnjckgoilpaaW.PrintMore Go.Proofs.Ytjolnjckgoilpaa.PRa Go.Proofs.Ytjolnjckgoilpaa.Gf
theorem kh_put2 {W : World} {base n ab cap : Nat} {ok : Nat → Prop} {hs : List Hd} (h : KH.R 25 W base ok (.slice (some ⟨ab, 0, none⟩) n cap) hs) (hl : hs.length = n) (i : Nat) (x : Hd) : KH.R 25 (W.setCell ⟨ab, i, none⟩ (.slice x.1 x.2.1 x.2.2)) base ok (.slice (some ⟨ab, 0, none⟩) n cap) (hs.set i x) := by
  rw [← hl] at h
  have := (Kd.R_put h (i : Int) x).1
  rw [Int.toNat_natCast, hl] at this
  exact this
theorem KH_len2 {W : World} {base n ab cap : Nat} {ok : Nat → Prop} {hs : List Hd} (h : KH.R 25 W base ok (.slice (some ⟨ab, 0, none⟩) n cap) hs) (hl : hs.length = n) : KH.C W (some ⟨ab, 0, none⟩) n hs ∧ n ≤ cap := by
  rw [← hl] at h
  have := Kd.R_reads' h
  rw [hl] at this
  exact ⟨this.2.2, this.2.1⟩
/-- The code's shards but for those of S. -/
structure GoneOf (a : List (List Int)) (k m : Nat) (l : List (List Int)) (S : List Nat) : Prop where
  len : l.length = k + 2
  ok : okB l = true
  nd : S.Nodup
  lt : ∀ i, i ∈ S → i < k + 2
  out : ∀ i, i < k + 2 → i ∈ S → row l i = []
  stay : ∀ i, i < k + 2 → i ∉ S → row l i = row (allL a k m) i
theorem GoneOf.start {a : List (List Int)} {k m : Nat} (ha : a.length = k) (ok : okB a = true) : GoneOf a k m (allL a k m) [] :=
  ⟨allL_len ha, allL_ok ok, List.nodup_nil, fun i h => absurd h List.not_mem_nil, fun i _ h => absurd h List.not_mem_nil, fun _ _ _ => rfl⟩
theorem GoneOf.step {a l : List (List Int)} {k m i : Nat} {S : List Nat} (h : GoneOf a k m l S) (hi : i < k + 2) (hn : i ∉ S) : GoneOf a k m (goneL l i) (i :: S) := by
  have hi2 : i < l.length := by rw [h.len]; exact hi
  refine ⟨by unfold goneL; rw [List.length_set, h.len], goneL_ok h.ok, List.nodup_cons.mpr ⟨hn, h.nd⟩, fun q hq => ?_, fun q hq hs => ?_, fun q hq hs => ?_⟩
  · rcases List.mem_cons.mp hq with e | e
    · subst e; exact hi
    · exact h.lt q e
  · rw [goneL_row hi2]
    rcases List.mem_cons.mp hs with e | e
    · rw [if_pos e]
    · split
      · rfl
      · exact h.out q hq e
  · rw [goneL_row hi2, if_neg (fun e => hs (by rw [e]; exact List.mem_cons_self))]
    exact h.stay q hq (fun e => hs (List.mem_cons_of_mem _ e))
theorem GoneOf.lens {a l : List (List Int)} {k m : Nat} {S : List Nat} (h : GoneOf a k m l S) (ha : a.length = k) (hm : ∀ i, i < k → (row a i).length = m) (i : Nat) (hi : i < k + 2) : (row l i).length = if i ∈ S then 0 else m := by
  by_cases e : i ∈ S
  · rw [if_pos e, h.out i hi e]; rfl
  · rw [if_neg e, h.stay i hi e]; exact allL_lens ha hm i hi
theorem GoneOf.miss {a l : List (List Int)} {k m : Nat} {S : List Nat} (h : GoneOf a k m l S) (ha : a.length = k) (hm : ∀ i, i < k → (row a i).length = m) (hm0 : 0 < m) : (missL l).length = S.length := by
  refine Nat.le_antisymm (miss_le h.len S fun i hi hp => ?_) (miss_ge h.len S h.nd fun i hi => ⟨h.lt i hi, fun hp => hp ?_⟩)
  · by_cases e : i ∈ S
    · exact e
    · exact absurd (by unfold pres; rw [h.lens ha hm i hi, if_neg e]; omega) hp
  · rw [h.out i (h.lt i hi) hi]; rfl
/-- What Rebuild tells: the code's shards. -/
def AnyQ (a : List (List Int)) (k m : Nat) (w : World) (e : Ending) (w' : World) : Prop := ∃ ob cap, e = .returned (.tuple #[.slice (some ⟨ob, 0, none⟩) (k + 2) cap, .int .i64 0]) ∧ KR.C w' (some ⟨ob, 0, none⟩) (k + 2) (allL a k m) ∧ k + 2 ≤ cap ∧ Below w.heap.size w w'
theorem Outs.toRows {W : World} {base n m : Nat} {hs : List Hd} {L : Nat → List Int} {l : List (List Int)} (h : Outs W base n m (fun _ => True) hs L) (hl : l.length = n) (hL : ∀ i, i < n → L i = row l i) : Rows W hs l := by
  refine ⟨by rw [h.len, hl], fun i x hx => ?_⟩
  have hi : i < n := by
    have := (List.getElem?_eq_some_iff.1 hx).1
    rw [h.len] at this
    exact this
  obtain ⟨b, c, h1, h2, h3, h4⟩ := h.rows i hi trivial
  rw [hx] at h1
  obtain rfl := Option.some.inj h1
  have h5 : KB.R 5 W base (fun _ => True) (.slice (some ⟨b, 0, none⟩) (L i).length c) (L i) := by rw [h3]; exact h4
  have h6 := Kd.R_reads' h5
  rw [← hL i hi]
  refine ⟨h3.symm, h2, ?_⟩
  show KB.C W _ m (L i)
  rw [← h3]
  exact h6.2.2
theorem any_few (W : World) (g k m : Nat) (hc : CodeAt W g k) (hk : 1 ≤ k) (hk2 : k ≤ 32) (B : Option Addr) (d : Nat) (a l : List (List Int)) (S : List Nat) (hL : KR.C W B (k + 2) l) (hd : k + 2 ≤ d) (hm0 : 0 < m) (hm9 : m ≤ 1000000) (ha : a.length = k) (oka : okB a = true) (hm : ∀ i, i < k → (row a i).length = m) (hG : GoneOf a k m l S) (hS : S.length ≤ 2) :
    Calls Try.prog 12 #[.pointer (some ⟨g, 0, none⟩), .slice B (k + 2 : Nat) d] W (AnyQ a k m W) := by
  obtain ⟨L, hLr, hC⟩ := rebuild_few W g k hc hk hk2 B d l (k + 2) hL rfl hd m hm0 hm9 hG.ok (fun i hi => by rw [hG.lens ha hm i hi]; split; exact .inl rfl; exact .inr rfl) (by rw [hG.miss ha hm hm0]; exact hS)
  refine hC.mono fun e w' h => ?_
  obtain ⟨ob, cap, hs, rfl, h1, h2, h3⟩ := h
  have hr := hLr a ha oka hm (fun i hi hp => hG.stay i hi (fun e => hp (by rw [hG.out i hi e]; rfl)))
  have h4 := KH_len2 h1 (by rw [h2.len])
  exact ⟨ob, cap, rfl, KR_of_KH h4.1 (h2.toRows (allL_len ha) hr), h4.2, h3⟩
theorem any_lost (W : World) (g k m : Nat) (hc : CodeAt W g k) (hk2 : k ≤ 32) (B : Option Addr) (d : Nat) (a l : List (List Int)) (S : List Nat) (hL : KR.C W B (k + 2) l) (hd : k + 2 ≤ d) (hm0 : 0 < m) (ha : a.length = k) (hm : ∀ i, i < k → (row a i).length = m) (hG : GoneOf a k m l S) (hS : 2 < S.length) :
    Calls Try.prog 12 #[.pointer (some ⟨g, 0, none⟩), .slice B (k + 2 : Nat) d] W (NoQ W 7) := by
  have := rebuild12_lost W g k hc hk2 B d l (by rw [hG.len]; exact hL) (by rw [hG.len]; exact hd) (by rw [hG.len]; omega) ⟨hG.len, sizes_some m l 0 (.inl rfl) (fun x hx => by obtain ⟨i, hi, rfl⟩ := mem_row hx; rw [hG.len] at hi; rw [hG.lens ha hm i hi]; split; exact .inl rfl; exact .inr rfl)⟩ (by rw [hG.miss ha hm hm0]; exact hS)
  rw [hG.len] at this
  exact this
/-- The state in memory: all the shards' headers in one row, those that are left of them in another one, the three numbers in a third. -/
structure Ga (w5 W : World) (n ab cA lb cL gb : Nat) (hsA hsL : List Hd) (gs : Nat → Int) : Prop where
  below : Below w5.heap.size w5 W
  all : KH.R 25 W w5.heap.size (fun k => k ≠ lb) (.slice (some ⟨ab, 0, none⟩) n cA) hsA
  lst : KH.R 25 W w5.heap.size (fun _ => True) (.slice (some ⟨lb, 0, none⟩) n cL) hsL
  lenA : hsA.length = n
  lenL : hsL.length = n
  ne : gb ≠ lb
  gs : ∀ i, i < 3 → W.cell? ⟨gb, i, none⟩ = some (.int .i64 (gs i))
variable {w5 W W1 : World} {n ab cA lb cL gb : Nat} {hsA hsL : List Hd} {gs : Nat → Int}
theorem Ga.move (h : Ga w5 W n ab cA lb cL gb hsA hsL gs) (hb : Below W.heap.size W W1) : Ga w5 W1 n ab cA lb cL gb hsA hsL gs :=
  ⟨below_then h.below h.below.size hb, Kd.R_below h.all hb, Kd.R_below h.lst hb, h.lenA, h.lenL, h.ne, fun i hi => pw_cell_below hb (h.gs i hi)⟩
theorem Ga.put (h : Ga w5 W n ab cA lb cL gb hsA hsL gs) (i : Nat) : Ga w5 (W.setCell ⟨lb, i, none⟩ (.slice none 0 0)) n ab cA lb cL gb hsA (hsL.set i (none, 0, 0)) gs :=
  ⟨below_set h.below (Kd.R_base h.lst lb rfl), Kd.R_far h.all (fun k hk => hk) _, kh_put2 h.lst h.lenL i (none, 0, 0), h.lenA, by rw [List.length_set]; exact h.lenL, h.ne, fun j hj => by rw [cell_far h.ne]; exact h.gs j hj⟩
theorem Ga.free (h : Ga w5 W n ab cA lb cL gb hsA hsL gs) (i : Nat) : W.frozen? ⟨lb, i, none⟩ = false := by
  obtain ⟨cl, hcl⟩ := Kd.R_typed h.lst lb rfl
  exact frozen_blk hcl
theorem Ga.head (h : Ga w5 W n ab cA lb cL gb hsA hsL gs) {i : Nat} {x : Hd} (hi : i < n) (hx : hsL[i]? = some x) : W.cell? ⟨lb, i, none⟩ = some (.slice x.1 x.2.1 x.2.2) := by
  have := KH_atA (KH_len2 h.lst h.lenL).1 hi hx
  rw [Addr.add_mid, Nat.zero_add] at this
  exact this
theorem ga_start {w8 w9 : World} {one two three : Int} (hall : KH.R 25 w8 w5.heap.size (fun _ => True) (.slice (some ⟨ab, 0, none⟩) n cA) hsA) (hlen : hsA.length = n) (h58 : w5.heap.size ≤ w8.heap.size)
    (hg : (w8.alloc (.cells #[] 25)).grownBy w9 (some w8.heap.size)) (hl : KH.R 25 w9 w5.heap.size (fun _ => True) (.slice (some ⟨lb, 0, none⟩) n cL) hsA)
    (hat : some lb = some w8.heap.size ∨ ∃ b, some lb = some b ∧ (w8.alloc (.cells #[] 25)).heap.size ≤ b) (hb9 : Below w5.heap.size w5 w9) :
    Ga w5 (w9.alloc (.cells #[.int .i64 one, .int .i64 two, .int .i64 three] 3)) n ab cA lb cL w9.heap.size hsA hsA (fun i => [one, two, three].getD i 0) := by
  have hlb : w8.heap.size ≤ lb := by
    rcases hat with e | ⟨b, e, hb⟩
    · injection e with e; omega
    · injection e with e
      rw [World.size_alloc] at hb
      omega
  obtain ⟨cl, hcl⟩ := Kd.R_typed hall ab rfl
  have hab : ab < w8.heap.size := heap_lt hcl
  obtain ⟨cl2, hcl2⟩ := Kd.R_typed hl lb rfl
  have hlb2 : lb < w9.heap.size := heap_lt hcl2
  have h9 : KH.R 25 w9 w5.heap.size (fun k => k ≠ lb) (.slice (some ⟨ab, 0, none⟩) n cA) hsA :=
    KH_ok (Kd.R_grown (ok := fun k => True ∧ k ≠ w8.heap.size) (Kd.R_alloc (Kd.R_elderB hall w8.heap.size (Nat.le_refl _)) (.cells #[] 25)) hg (fun k hk e => hk.2 (by injection e)))
      (fun k hk => by simp only [Value.ownBlock, Option.some.injEq] at hk; omega)
  have hba := below_alloc (Below.refl w9.heap.size w9) (.cells #[.int .i64 one, .int .i64 two, .int .i64 three] 3)
  refine ⟨below_alloc hb9 _, Kd.R_below h9 hba, Kd.R_below hl hba, hlen, hlen, by omega, fun i hi => ?_⟩
  have hh : (w9.alloc (.cells #[.int .i64 one, .int .i64 two, .int .i64 three] 3)).heap[w9.heap.size]? = some (.cells #[.int .i64 one, .int .i64 two, .int .i64 three] 3 (0, 0)) := heap_alloc_last _ _
  rw [cell_of_row _ _ _ _ 3 (0, 0) hh]
  match i, hi with
  | 0, _ => rfl
  | 1, _ => rfl
  | 2, _ => rfl
/-- The state, with what is left of the shards. -/
def Gz (w5 W : World) (a : List (List Int)) (k m ab cA lb cL gb : Nat) (hsA : List Hd) (gs : Nat → Int) (S : List Nat) : Prop := ∃ hsL l, Ga w5 W (k + 2) ab cA lb cL gb hsA hsL gs ∧ Rows w5 hsL l ∧ GoneOf a k m l S
variable {a : List (List Int)} {k m : Nat} {S : List Nat}
theorem Gz.move (h : Gz w5 W a k m ab cA lb cL gb hsA gs S) (hb : Below W.heap.size W W1) : Gz w5 W1 a k m ab cA lb cL gb hsA gs S := by
  obtain ⟨hsL, l, h1, h2, h3⟩ := h
  exact ⟨hsL, l, h1.move hb, h2, h3⟩
theorem Gz.below (h : Gz w5 W a k m ab cA lb cL gb hsA gs S) : Below w5.heap.size w5 W := by
  obtain ⟨hsL, l, h1, h2, h3⟩ := h
  exact h1.below
theorem Gz.num (h : Gz w5 W a k m ab cA lb cL gb hsA gs S) {i : Nat} (hi : i < 3) : W.cell? ⟨gb, i, none⟩ = some (.int .i64 (gs i)) := by
  obtain ⟨hsL, l, h1, h2, h3⟩ := h
  exact h1.gs i hi
theorem Gz.free (h : Gz w5 W a k m ab cA lb cL gb hsA gs S) (i : Nat) : W.frozen? ⟨lb, i, none⟩ = false := by
  obtain ⟨hsL, l, h1, h2, h3⟩ := h
  exact h1.free i
theorem Gz.head (h : Gz w5 W a k m ab cA lb cL gb hsA gs S) (ha : a.length = k) (hm : ∀ i, i < k → (row a i).length = m) {i : Nat} (hi : i < k + 2) : ∃ A c, W.cell? ⟨lb, i, none⟩ = some (.slice A (if i ∈ S then 0 else m : Nat) c) := by
  obtain ⟨hsL, l, h1, h2, h3⟩ := h
  obtain ⟨x, hx⟩ : ∃ x, hsL[i]? = some x := ⟨_, List.getElem?_eq_getElem (by rw [h1.lenL]; exact hi)⟩
  have := h1.head hi hx
  rw [(h2.2 i x hx).1, h3.lens ha hm i hi] at this
  exact ⟨_, _, this⟩
theorem Gz.put (h : Gz w5 W a k m ab cA lb cL gb hsA gs S) {i : Nat} (hi : i < k + 2) (hn : i ∉ S) : Gz w5 (W.setCell ⟨lb, i, none⟩ (.slice none 0 0)) a k m ab cA lb cL gb hsA gs (i :: S) := by
  obtain ⟨hsL, l, h1, h2, h3⟩ := h
  exact ⟨_, _, h1.put i, h2.gone i, h3.step hi hn⟩
theorem Gz.few {g : Nat} (h : Gz w5 W a k m ab cA lb cL gb hsA gs S) (hc : CodeAt w5 g k) (hk : 1 ≤ k) (hk2 : k ≤ 32) (hm0 : 0 < m) (hm9 : m ≤ 1000000) (ha : a.length = k) (oka : okB a = true) (hm : ∀ i, i < k → (row a i).length = m) (hS : S.length ≤ 2) : Calls Try.prog 12 #[.pointer (some ⟨g, 0, none⟩), .slice (some ⟨lb, 0, none⟩) (k + 2 : Nat) cL] W (AnyQ a k m W) := by
  obtain ⟨hsL, l, h1, h2, h3⟩ := h
  have h4 := KH_len2 h1.lst h1.lenL
  exact any_few W g k m (hc.below h1.below) hk hk2 _ cL a l S (KR_of_KH h4.1 (h2.below h1.below)) h4.2 hm0 hm9 ha oka hm h3 hS
theorem Gz.lost {g : Nat} (h : Gz w5 W a k m ab cA lb cL gb hsA gs S) (hc : CodeAt w5 g k) (hk2 : k ≤ 32) (hm0 : 0 < m) (ha : a.length = k) (hm : ∀ i, i < k → (row a i).length = m) (hS : 2 < S.length) : Calls Try.prog 12 #[.pointer (some ⟨g, 0, none⟩), .slice (some ⟨lb, 0, none⟩) (k + 2 : Nat) cL] W (NoQ W 7) := by
  obtain ⟨hsL, l, h1, h2, h3⟩ := h
  have h4 := KH_len2 h1.lst h1.lenL
  exact any_lost W g k m (hc.below h1.below) hk2 _ cL a l S (KR_of_KH h4.1 (h2.below h1.below)) h4.2 hm0 ha hm h3 hS
theorem Gz.same {W' : World} {ob cap : Nat} (h : Gz w5 W a k m ab cA lb cL gb hsA gs S) (hr : Rows w5 hsA (allL a k m)) (hb : Below W.heap.size W W') (hx : KR.C W' (some ⟨ob, 0, none⟩) (k + 2) (allL a k m)) (hc : k + 2 ≤ cap) (hk2 : k ≤ 32) : Calls Try.prog 13 #[.slice (some ⟨ob, 0, none⟩) (k + 2 : Nat) cap, .slice (some ⟨ab, 0, none⟩) (k + 2 : Nat) cA] W' fun e w' => e = .returned (.bool true) ∧ Below W'.heap.size W' w' := by
  obtain ⟨hsL, l, h1, h2, h3⟩ := h.move hb
  have h4 := KH_len2 h1.all h1.lenA
  have := same13 W' (k + 2) (some ⟨ob, 0, none⟩) (some ⟨ab, 0, none⟩) cap cA (allL a k m) hx (KR_of_KH h4.1 (hr.below h1.below)) hc h4.2 (by omega)
  exact this
end Go.Proofs.Ytjolnjckgoilpaa.Rs
