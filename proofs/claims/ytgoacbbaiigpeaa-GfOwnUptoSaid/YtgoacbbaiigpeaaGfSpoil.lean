/-
  The law's helper that writes over rows: nothing but the matrix's own blocks is changed.
-/
import Derived.Test.YtgoacbbaiigpeaaMRef
import Derived.BigRegion
set_option linter.unusedVariables false
set_option linter.unusedSimpArgs false
namespace Go.Proofs.Ytgoacbbaiigpeaa.Gf
open Go.RowKit Go.Proofs.YtgoacbbaiigpeaaW.PrintWords Go.Proofs.YtgoacbbaiigpeaaW.PrintLast Go.Proofs.Ytgoacbbaiigpeaa.PGa

/-- A row whose block lies between two bounds. -/
def RowS (w : World) (lo hi : Nat) (u : Value) : Prop :=
  ∃ A c k, u = .slice A c k ∧ c ≤ maxLen ∧ (c = 0 ∨ ∃ b cs, A = some ⟨b, 0, none⟩ ∧ lo ≤ b ∧ b < hi ∧ w.heap[b]? = some (.cells cs 5 (0, 0)) ∧ ∀ j, j < c → ∃ x : Int, cs[j]? = some (.int .u8 x))
/-- A matrix all of whose blocks lie between two bounds. -/
def Sp (w : World) (lo hi : Nat) (v : Value) : Prop :=
  ∃ A n k, v = .slice A n k ∧ n ≤ maxLen ∧ (n = 0 ∨ ∃ g cs, A = some ⟨g, 0, none⟩ ∧ lo ≤ g ∧ g < hi ∧ w.heap[g]? = some (.cells cs 53 (0, 0)) ∧ ∀ i, i < n → ∃ u, cs[i]? = some u ∧ RowS w lo hi u)
theorem RowS.keep {w w' : World} {lo hi : Nat} {u : Value} (h : RowS w lo hi u) (e : ∀ k, lo ≤ k → k < hi → w'.heap[k]? = w.heap[k]?) : RowS w' lo hi u := by
  obtain ⟨A, c, k, rfl, hc, h⟩ := h
  refine ⟨A, c, k, rfl, hc, ?_⟩
  rcases h with h | ⟨b, cs, h1, h2, h3, h4, h5⟩
  · exact .inl h
  · exact .inr ⟨b, cs, h1, h2, h3, (e b h2 h3).trans h4, h5⟩
theorem Sp.keep {w w' : World} {lo hi : Nat} {v : Value} (h : Sp w lo hi v) (e : ∀ k, lo ≤ k → k < hi → w'.heap[k]? = w.heap[k]?) : Sp w' lo hi v := by
  obtain ⟨A, n, k, rfl, hn, h⟩ := h
  refine ⟨A, n, k, rfl, hn, ?_⟩
  rcases h with h | ⟨g, cs, h1, h2, h3, h4, h5⟩
  · exact .inl h
  · refine .inr ⟨g, cs, h1, h2, h3, (e g h2 h3).trans h4, fun i hi => ?_⟩
    obtain ⟨u, hu, hr⟩ := h5 i hi
    exact ⟨u, hu, hr.keep e⟩
theorem RowS.set {w : World} {lo hi : Nat} {u : Value} (h : RowS w lo hi u) {b j : Nat} {cs : Array Value} (hb : w.heap[b]? = some (.cells cs 5 (0, 0))) (y : Int) : RowS (w.setCell ⟨b, j, none⟩ (.int .u8 y)) lo hi u := by
  obtain ⟨A, c, k, rfl, hc, h⟩ := h
  refine ⟨A, c, k, rfl, hc, ?_⟩
  rcases h with h | ⟨b2, cs2, h1, h2, h3, h4, h5⟩
  · exact .inl h
  · by_cases e : b2 = b
    · subst e
      rw [hb] at h4
      injection h4 with h4
      injection h4 with h4 _ _
      subst h4
      refine .inr ⟨b2, _, h1, h2, h3, blkset hb j _, fun q hq => ?_⟩
      obtain ⟨x, hx⟩ := h5 q hq
      by_cases e2 : j = q
      · subst e2
        have hlt := (Array.getElem?_eq_some_iff.1 hx).1
        exact ⟨y, by rw [Array.getElem?_setIfInBounds_self_of_lt hlt]⟩
      · exact ⟨x, by rw [Array.getElem?_setIfInBounds_ne e2]; exact hx⟩
    · exact .inr ⟨b2, cs2, h1, h2, h3, blkfar h4 e _, h5⟩
theorem Sp.set {w : World} {lo hi : Nat} {v : Value} (h : Sp w lo hi v) {b j : Nat} {cs : Array Value} (hb : w.heap[b]? = some (.cells cs 5 (0, 0))) (y : Int) : Sp (w.setCell ⟨b, j, none⟩ (.int .u8 y)) lo hi v := by
  obtain ⟨A, n, k, rfl, hn, h⟩ := h
  refine ⟨A, n, k, rfl, hn, ?_⟩
  rcases h with h | ⟨g, cs2, h1, h2, h3, h4, h5⟩
  · exact .inl h
  · have hne : g ≠ b := type_ne h4 hb (by decide)
    refine .inr ⟨g, cs2, h1, h2, h3, blkfar h4 hne _, fun i hi => ?_⟩
    obtain ⟨u, hu, hr⟩ := h5 i hi
    exact ⟨u, hu, hr.set hb y⟩
/-- What lies outside is as it was. -/
structure Out (lo hi : Nat) (w w' : World) : Prop where
  below : Below lo w w'
  rest : ∀ k, hi ≤ k → w'.heap[k]? = w.heap[k]?
theorem Out.refl (lo hi : Nat) (w : World) : Out lo hi w w := ⟨Below.refl _ _, fun _ _ => rfl⟩
theorem Out.set {w w' : World} {lo hi b : Nat} (h : Out lo hi w w') (h1 : lo ≤ b) (h2 : b < hi) (j : Nat) (u : Value) : Out lo hi w (w'.setCell ⟨b, j, none⟩ u).drew :=
  ⟨(h.1.setCell h1 u).drew, fun k hk => (Below.heap_setCell w' ⟨b, j, none⟩ u k (by show k ≠ b; omega)).trans (h.2 k hk)⟩
theorem sp_of_S {w : World} {base : Nat} {ok : Nat → Prop} {v : Value} {l : List (List Int)} (h : Kd.S KR 53 w base ok v l) : Sp w base w.heap.size v := by
  obtain ⟨π, h0, inner, ho, hr⟩ := h
  have hlen : l.zipIdx.length = l.length := by simp
  rw [hlen] at ho
  obtain ⟨hil, ho⟩ := ho
  rcases ho with ⟨e, h1⟩ | ⟨g, gc, cur, rfl, hbg, hheap, hle, hmx, hsz, htk⟩
  · exact ⟨_, _, _, e, by unfold maxLen; omega, .inl rfl⟩
  have hsz1 : (Kd.tag π KR).sz = 1 := rfl
  rw [hsz1, Nat.mul_one] at hil htk
  refine ⟨_, _, _, rfl, by omega, .inr ⟨g, cur, rfl, hbg, heap_lt hheap, hheap, fun j hj => ?_⟩⟩
  have hz : l.zipIdx[j]? = some (l[j], j) := by
    rw [List.getElem?_zipIdx]
    simp [hj]
  obtain ⟨u, hu, hR⟩ := hr.2 j _ hz
  rw [hsz1] at hu
  have hiu : inner[j]? = some u := by
    have e : ((inner.drop (j * 1)).take 1)[0]? = some u := by rw [hu]; rfl
    rw [List.getElem?_take_of_lt (by omega), List.getElem?_drop] at e
    simpa using e
  refine ⟨u, toArr htk hj hiu, ?_⟩
  obtain ⟨_, hown⟩ := Kd.own_of_R hR
  rcases hown with ⟨e, h1⟩ | ⟨bj, cj, curj, rfl, hb, hh, h1, h2, h3, h4⟩
  · exact ⟨_, _, _, e, by unfold maxLen; omega, .inl rfl⟩
  · refine ⟨_, _, _, rfl, by omega, .inr ⟨bj, curj, rfl, hb, heap_lt hh, hh, fun q hq => ?_⟩⟩
    rw [Nat.mul_one] at h4
    exact ⟨(l[j])[q], toArr h4 hq (by simp [encs, hq])⟩
theorem Sp.row {wr : World} {lo hi n gc i : Nat} {A : Option Addr} (h : Sp wr lo hi (.slice A n gc)) (hi2 : i < n) : ∃ g u, A = some ⟨g, 0, none⟩ ∧ wr.cell? ⟨g, i, none⟩ = some u ∧ RowS wr lo hi u := by
  obtain ⟨A', n', k, e, hn, h⟩ := h
  injection e with e1 e2 e3
  subst e1; subst e2; subst e3
  rcases h with h | ⟨g, cs, h1, h2, h3, h4, h5⟩
  · omega
  · obtain ⟨u, hu, hr⟩ := h5 i hi2
    exact ⟨g, u, h1, by rw [cell_of_row wr g i _ 53 (0, 0) h4, hu], hr⟩
theorem RowS.cell {wr : World} {lo hi c k j : Nat} {A : Option Addr} (h : RowS wr lo hi (.slice A c k)) (hj : j < c) : ∃ b cs x, A = some ⟨b, 0, none⟩ ∧ lo ≤ b ∧ b < hi ∧ wr.heap[b]? = some (.cells cs 5 (0, 0)) ∧ wr.cell? ⟨b, j, none⟩ = some (.int .u8 x) := by
  obtain ⟨A', n', k', e, hn, h⟩ := h
  injection e with e1 e2 e3
  subst e1; subst e2; subst e3
  rcases h with h | ⟨g, cs, h1, h2, h3, h4, h5⟩
  · omega
  · obtain ⟨x, hx⟩ := h5 j hj
    exact ⟨g, cs, x, h1, h2, h3, h4, by rw [cell_of_row wr g j _ 5 (0, 0) h4, hx]⟩
theorem Sp.cell_set {wr : World} {lo hi n gc g i b : Nat} {u : Value} {cs : Array Value} (h : Sp wr lo hi (.slice (some ⟨g, 0, none⟩) n gc)) (hi2 : i < n) (hb : wr.heap[b]? = some (.cells cs 5 (0, 0))) (j : Nat) (y : Int) (hc : wr.cell? ⟨g, i, none⟩ = some u) : (wr.setCell ⟨b, j, none⟩ (.int .u8 y)).cell? ⟨g, i, none⟩ = some u := by
  obtain ⟨A', n', k', e, hn, h⟩ := h
  injection e with e1 e2 e3
  subst e1; subst e2; subst e3
  rcases h with h | ⟨g2, cs2, h1, h2, h3, h4, h5⟩
  · omega
  · injection h1 with h1
    injection h1 with h1 _ _
    subst h1
    rw [cell_of_row wr g i _ 53 (0, 0) h4] at hc
    rw [cell_of_row _ g i _ 53 (0, 0) (blkfar h4 (type_ne h4 hb (by decide)) _), hc]
set_option maxRecDepth 100000 in
set_option maxHeartbeats 2000000 in
theorem spoil32 (w : World) (lo hi : Nat) (v : Value) (h : Sp w lo hi v) : Calls Try.prog 32 #[v] w fun e w' => e = .returned (.tuple #[]) ∧ Out lo hi w w' := by
  have h0 := h
  obtain ⟨A, n, gc, rfl, hn, _⟩ := h0
  have hmx : n < 9223372036854775808 := by unfold maxLen at hn; omega
  clear hn
  go_enter Try.func32, Try.ntmps32
  go_wp2
  go_loopw [2] (fun v wr => ∃ i : Nat, i ≤ n ∧ v = .int .i64 (i : Nat) ∧ Sp wr lo hi (.slice A n gc) ∧ Out lo hi w wr) (fun v _ => n - (intOf v).toNat)
  case atStart => exact ⟨0, Nat.zero_le _, rfl, h, Out.refl _ _ _⟩
  case round =>
    clear h
    obtain ⟨i, hle, rfl, hS, hO⟩ := hrel
    by_cases hlt : i < n
    · obtain ⟨g, u, rfl, hcell, hRow⟩ := hS.row hlt
      obtain ⟨A2, c, k, rfl, hc, _⟩ := id hRow
      have hcx : c < 9223372036854775808 := by unfold maxLen at hc; omega
      have HS := Aside0.mk hS
      have HO := Aside0.mk hO
      have q1 : (0 : Int) ≤ (i : Int) := by omega
      have q2 : (i : Int) < (n : Int) := by omega
      clear hS hO hRow hc
      go_wp2
      go_loopw [3] (fun v wx => ∃ j : Nat, j ≤ c ∧ v = .int .i64 (j : Nat) ∧ Sp wx lo hi (.slice (some ⟨g, 0, none⟩) n gc) ∧ Out lo hi w wx ∧ wx.cell? ⟨g, i, none⟩ = some (.slice A2 c k)) (fun v _ => c - (intOf v).toNat)
      case atStart => exact ⟨0, Nat.zero_le _, rfl, HS.out, HO.out, hcell⟩
      case round =>
        clear HS HO hcell
        obtain ⟨j, hjl, rfl, hS, hO, hcell⟩ := hrel
        by_cases hlj : j < c
        · obtain ⟨g', u, e, hcell', hRow⟩ := hS.row hlt
          injection e with e
          injection e with e _ _
          subst e
          rw [hcell] at hcell'
          injection hcell' with hcell'
          subst hcell'
          obtain ⟨b, cs, x, rfl, hb1, hb2, hbh, hx⟩ := hRow.cell hlj
          have hfr : wr.frozen? ⟨b, j, none⟩ = false := by simp [World.frozen?, hbh]
          have hgb : wr.cell? ⟨g, i, none⟩ = some (.slice (some ⟨b, 0, none⟩) c k) := hcell
          have hcw := fun y : Int => hS.cell_set hlt hbh j y hcell
          have HSet : Aside0 (∀ y : Int, Sp (wr.setCell ⟨b, j, none⟩ (.int .u8 y)).drew lo hi (.slice (some ⟨g, 0, none⟩) n gc) ∧ Out lo hi w (wr.setCell ⟨b, j, none⟩ (.int .u8 y)).drew ∧ (wr.setCell ⟨b, j, none⟩ (.int .u8 y)).drew.cell? ⟨g, i, none⟩ = some (.slice (some ⟨b, 0, none⟩) c k)) := ⟨fun y =>
            ⟨hS.set hbh y, hO.set hb1 hb2 j _, hcw y⟩⟩
          have q3 : (0 : Int) ≤ (j : Int) := by omega
          have q4 : (j : Int) < (c : Int) := by omega
          clear hS hO hRow hbh hgb hb1 hb2 hcw
          go_wp2
          refine start_ (n := 15) (S := fun w' => w'.cell? ⟨g, i, none⟩ = some (.slice (some ⟨b, 0, none⟩) c k) ∧ w'.cell? ⟨b, j, none⟩ = some (.int .u8 x)) (ds := [14]) #[false, false, false, false, false, false, false, false, false, false, false, false, false, false, false] (by kernel_rfl) rfl rfl ⟨hcell, hx⟩ (fun hHeld => ?_)
          refine pure_ (i := 0) (N := some 19) (v := ?_) (a' := ?_) #[true, false, false, false, false, false, false, false, false, false, false, false, false, false, false] rfl rfl (by kernel_rfl) (fun _ _ _ h => h) (Or.inl ⟨by rfl, ?_⟩) ?_ ?_
          rotate_left
          · intro w'
            go_simp
            with_reducible rfl
          rotate_left
          · simp only [Act.put, List.setIfInBounds_toArray, List.set_cons_zero, List.set_cons_succ, i64_w, i32_w]
            rfl
          refine pure_ (i := 1) (N := some 20) (v := ?_) (a' := ?_) #[true, true, false, false, false, false, false, false, false, false, false, false, false, false, false] rfl rfl (by kernel_rfl) (fun _ _ _ h => h) (Or.inl ⟨by rfl, ?_⟩) ?_ ?_
          rotate_left
          · intro w'
            go_simp
            with_reducible rfl
          rotate_left
          · simp only [Act.put, List.setIfInBounds_toArray, List.set_cons_zero, List.set_cons_succ, i64_w, i32_w]
            rfl
          refine pure_ (i := 2) (N := some 21) (v := ?_) (a' := ?_) #[true, true, true, false, false, false, false, false, false, false, false, false, false, false, false] rfl rfl (by kernel_rfl) (fun _ _ _ h => h) (Or.inl ⟨by rfl, ?_⟩) ?_ ?_
          rotate_left
          · intro w'
            go_simp
            with_reducible rfl
          rotate_left
          · simp only [Act.put, List.setIfInBounds_toArray, List.set_cons_zero, List.set_cons_succ, i64_w, i32_w]
            rfl
          refine pure_ (i := 4) (N := some 23) (v := ?_) (a' := ?_) #[true, true, true, false, true, false, false, false, false, false, false, false, false, false, false] rfl rfl (by kernel_rfl) (fun _ _ _ h => h) (Or.inl ⟨by rfl, ?_⟩) ?_ ?_
          rotate_left
          · intro w'
            go_simp
            with_reducible rfl
          rotate_left
          · simp only [Act.put, List.setIfInBounds_toArray, List.set_cons_zero, List.set_cons_succ, i64_w, i32_w]
            rfl
          refine pure_ (i := 5) (N := some 24) (v := ?_) (a' := ?_) #[true, true, true, false, true, true, false, false, false, false, false, false, false, false, false] rfl rfl (by kernel_rfl) (fun _ _ _ h => h) (Or.inl ⟨by rfl, ?_⟩) ?_ ?_
          rotate_left
          · intro w'
            go_simp
            with_reducible rfl
          rotate_left
          · simp only [Act.put, List.setIfInBounds_toArray, List.set_cons_zero, List.set_cons_succ, i64_w, i32_w]
            rfl
          refine pure_ (i := 6) (N := some 25) (v := ?_) (a' := ?_) #[true, true, true, false, true, true, true, false, false, false, false, false, false, false, false] rfl rfl (by kernel_rfl) (fun _ _ _ h => h) (Or.inl ⟨by rfl, ?_⟩) ?_ ?_
          rotate_left
          · intro w'
            go_simp
            with_reducible rfl
          rotate_left
          · simp only [Act.put, List.setIfInBounds_toArray, List.set_cons_zero, List.set_cons_succ, i64_w, i32_w]
            rfl
          refine pure_ (i := 7) (N := some 26) (v := ?_) (a' := ?_) #[true, true, true, false, true, true, true, true, false, false, false, false, false, false, false] rfl rfl (by kernel_rfl) (fun _ _ _ h => h) (Or.inl ⟨by rfl, ?_⟩) ?_ ?_
          rotate_left
          · intro w'
            go_simp
            with_reducible rfl
          rotate_left
          · simp only [Act.put, List.setIfInBounds_toArray, List.set_cons_zero, List.set_cons_succ, i64_w, i32_w]
            rfl
          refine pure_ (i := 9) (N := some 28) (v := ?_) (a' := ?_) #[true, true, true, false, true, true, true, true, false, true, false, false, false, false, false] rfl rfl (by kernel_rfl) (fun _ _ _ h => h) (Or.inl ⟨by rfl, ?_⟩) ?_ ?_
          rotate_left
          · intro w'
            go_simp
            with_reducible rfl
          rotate_left
          · simp only [Act.put, List.setIfInBounds_toArray, List.set_cons_zero, List.set_cons_succ, i64_w, i32_w]
            rfl
          refine take_ (i := 3) (N := some 22) (v := ?_) (a' := ?_) #[true, true, true, true, true, true, true, true, false, true, false, false, false, false, false] rfl rfl (by kernel_rfl) (fun _ _ _ h => h) (Or.inl ⟨by rfl, ?_⟩) hHeld ?_ ?_
          rotate_left
          · rintro w' ⟨s0, s1⟩
            go_simp
            with_reducible rfl
          rotate_left
          · simp only [Act.put, List.setIfInBounds_toArray, List.set_cons_zero, List.set_cons_succ, i64_w, i32_w]
            rfl
          refine take_ (i := 8) (N := some 27) (v := ?_) (a' := ?_) #[true, true, true, true, true, true, true, true, true, true, false, false, false, false, false] rfl rfl (by kernel_rfl) (fun _ _ _ h => h) (Or.inl ⟨by rfl, ?_⟩) hHeld ?_ ?_
          rotate_left
          · rintro w' ⟨s0, s1⟩
            go_simp
            with_reducible rfl
          rotate_left
          · simp only [Act.put, List.setIfInBounds_toArray, List.set_cons_zero, List.set_cons_succ, i64_w, i32_w]
            rfl
          refine pure_ (i := 10) (N := some 29) (v := ?_) (a' := ?_) #[true, true, true, true, true, true, true, true, true, true, true, false, false, false, false] rfl rfl (by kernel_rfl) (fun _ _ _ h => h) (Or.inl ⟨by rfl, ?_⟩) ?_ ?_
          rotate_left
          · intro w'
            go_simp
            with_reducible rfl
          rotate_left
          · simp only [Act.put, List.setIfInBounds_toArray, List.set_cons_zero, List.set_cons_succ, i64_w, i32_w]
            rfl
          refine take_ (i := 11) (N := some 30) (v := ?_) (a' := ?_) #[true, true, true, true, true, true, true, true, true, true, true, true, false, false, false] rfl rfl (by kernel_rfl) (fun _ _ _ h => h) (Or.inl ⟨by rfl, ?_⟩) hHeld ?_ ?_
          rotate_left
          · rintro w' ⟨s0, s1⟩
            go_simp
            with_reducible rfl
          rotate_left
          · simp only [Act.put, List.setIfInBounds_toArray, List.set_cons_zero, List.set_cons_succ, i64_w, i32_w]
            rfl
          refine pure_ (i := 12) (N := some 31) (v := ?_) (a' := ?_) #[true, true, true, true, true, true, true, true, true, true, true, true, true, false, false] rfl rfl (by kernel_rfl) (fun _ _ _ h => h) (Or.inl ⟨by rfl, ?_⟩) ?_ ?_
          rotate_left
          · intro w'
            go_simp
            with_reducible rfl
          rotate_left
          · simp only [Act.put, List.setIfInBounds_toArray, List.set_cons_zero, List.set_cons_succ, i64_w, i32_w]
            rfl
          refine pure_ (i := 13) (N := some 32) (v := ?_) (a' := ?_) #[true, true, true, true, true, true, true, true, true, true, true, true, true, true, false] rfl rfl (by kernel_rfl) (fun _ _ _ h => h) (Or.inl ⟨by rfl, ?_⟩) ?_ ?_
          rotate_left
          · intro w'
            go_simp
            with_reducible rfl
          rotate_left
          · simp only [Act.put, List.setIfInBounds_toArray, List.set_cons_zero, List.set_cons_succ, i64_w, i32_w]
            rfl
          refine last_ (i := 14) (N := none) #[true, true, true, true, true, true, true, true, true, true, true, true, true, true, true] rfl rfl (by kernel_rfl) (by decide) (fun K hK => ?_)
          refine skip_ (w1 := ?_) (by rfl) rfl ?_ ?_
          rotate_left
          · go_simp
            rfl
          refine hK.out _ _ ?_
          clear hK K
          refine done_ (by kernel_rfl) ?_
          go_wp2
          go_roundw
          case rel => exact ⟨j + 1, by omega, by go_num, (HSet.out _).1, (HSet.out _).2.1, (HSet.out _).2.2⟩
          case measure => simp [intOf]; omega
        · obtain rfl : j = c := by omega
          have HS := Aside0.mk hS
          have HO := Aside0.mk hO
          clear hS hO
          go_wp2
          go_roundw
          case rel => exact ⟨i + 1, by omega, by go_num, HS.out, HO.out⟩
          case measure => simp [intOf]; omega
    · obtain rfl : i = n := by omega
      have HO := Aside0.mk hO
      clear hS hO
      go_wp2
      go_end0
      exact ⟨rfl, HO.out⟩
end Go.Proofs.Ytgoacbbaiigpeaa.Gf
