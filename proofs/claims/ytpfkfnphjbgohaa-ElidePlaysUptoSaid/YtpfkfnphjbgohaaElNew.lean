/-
  New: a set of elisions.
-/
import Derived.Test.YtpfkfnphjbgohaaElClone
import Derived.Test.YtpfkfnphjbgohaaElHas
set_option linter.unusedVariables false
set_option linter.unusedSimpArgs false
namespace Go.Proofs.Ytpfkfnphjbgohaa.El
open Go.RowKit Go.Proofs.YtpfkfnphjbgohaaW.PrintWords Go.Proofs.YtpfkfnphjbgohaaW.PrintLast Go.Proofs.YtpfkfnphjbgohaaW.PrintMore Go.Proofs.Ytpfkfnphjbgohaa.PEa
/-- A set that was made since w0. -/
def Es (w0 W : World) (g : Nat) (xs : List S27) : Prop :=
  ∃ v, W.heap[g]? = some (.cells #[v] 64 (0, 0)) ∧ Kd.R k27 27 W w0.heap.size (fun _ => True) v xs ∧ Below w0.heap.size w0 W ∧ w0.heap.size ≤ g
theorem Es.below {w0 W : World} {g : Nat} {xs : List S27} (h : Es w0 W g xs) : Below w0.heap.size w0 W := by
  obtain ⟨v, h1, h2, h3, h4⟩ := h
  exact h3
theorem Es.lt {w0 W : World} {g : Nat} {xs : List S27} (h : Es w0 W g xs) : g < W.heap.size := by
  obtain ⟨v, h1, h2, h3, h4⟩ := h
  exact blk_lt h1
theorem Es.then_ {w0 W W' : World} {g : Nat} {xs : List S27} (h : Es w0 W g xs) (hb : Below W.heap.size W W') : Es w0 W' g xs := by
  obtain ⟨v, h1, h2, h3, h4⟩ := h
  exact ⟨v, blk_below h1 hb, Kd.R_below h2 hb, below_then h3 h3.size hb, h4⟩
/-- What the calls on a set ask. -/
theorem Es.open_ {w0 W : World} {g : Nat} {xs : List S27} (h : Es w0 W g xs) : ∃ A c, W.heap[g]? = some (.cells #[.slice A xs.length c] 64 (0, 0)) ∧ Kd.C k27 W A xs.length xs ∧ xs.length ≤ c := by
  obtain ⟨v, h1, h2, h3, h4⟩ := h
  obtain ⟨A, c, rfl, hc, hC⟩ := Kd.R_reads h2
  exact ⟨A, c, h1, hC, hc⟩
theorem Es.old {w w0 W : World} {g : Nat} {xs : List S27} (h : Es w0 W g xs) (hb : Below w.heap.size w w0) : Es w W g xs := by
  obtain ⟨v, h1, h2, h3, h4⟩ := h
  have := hb.size
  exact ⟨v, h1, Kd.R_lower h2 hb.size, below_then hb hb.size h3, by omega⟩
theorem addE {w0 W : World} {g : Nat} {xs : List S27} {e : S27} (h : Es w0 W g xs) (hl : xs.length ≤ 100000) (he : e.f0 < e.f1) :
    Calls Try.prog 14 #[.pointer (some ⟨g, 0, none⟩), .agg #[.string e.f0, .string e.f1, .int .u64 e.f2]] W fun r w' => r = .returned (.int .i64 0) ∧ Es w0 w' g (addF xs e) ∧ W.grownBy w' (some g) := by
  obtain ⟨A, c, h1, h2, h3⟩ := h.open_
  refine (add14 W g A c xs e h1 h2 hl he).mono ?_
  rintro r w' ⟨rfl, v', a, b, hg⟩
  obtain ⟨v, k1, k2, k3, k4⟩ := h
  exact ⟨rfl, ⟨v', a, Kd.R_lower b k3.size, k3.grown hg k3.size (fun k hk => by cases hk; exact k4), k4⟩, hg⟩
theorem Es.ne_box {w0 W : World} {g ge : Nat} {xs : List S27} {cs : Array Value} {t : TypeId} (h : Es w0 W g xs) (hb : W.heap[ge]? = some (.cells cs t (0, 0))) (ht : t ≠ 64) : ge ≠ g := by
  obtain ⟨v, h1, _⟩ := h
  rintro rfl
  rw [h1] at hb
  simp at hb
  exact ht hb.2.symm
theorem hasE {w0 W : World} {g : Nat} {xs : List S27} {key : ByteArray} {seq : Int} (h : Es w0 W g xs) (hl : xs.length ≤ 1000000) (hp : Pln xs) :
    Calls Try.prog 13 #[.pointer (some ⟨g, 0, none⟩), .string key, .int .u64 seq] W fun r w' => r = .returned (.bool (hasB xs key seq)) ∧ Es w0 w' g xs ∧ Below W.heap.size W w' := by
  obtain ⟨A, c, h1, h2, h3⟩ := h.open_
  refine (has13 W g A c xs key seq h1 h2 hl hp).mono ?_
  rintro r w' ⟨rfl, hb⟩
  exact ⟨rfl, h.then_ hb, hb⟩
theorem listE {w0 W : World} {g : Nat} {xs : List S27} (h : Es w0 W g xs) (hl : xs.length ≤ 1000000) :
    Calls Try.prog 10 #[.pointer (some ⟨g, 0, none⟩)] W (CloneQ W xs) := by
  obtain ⟨A, c, h1, h2, h3⟩ := h.open_
  exact list10 W g A c xs h1 h2 h3 hl
def allOk (l : List S27) : Bool := l.all (fun x => decide (x.f0 < x.f1))
def addAll (l : List S27) : List S27 := l.foldl addF []
def NewQ (w : World) (l : List S27) (r : Ending) (w' : World) : Prop :=
  Below w.heap.size w w' ∧ if allOk l = true then ∃ g, r = .returned (.tuple #[.pointer (some ⟨g, 0, none⟩), .int .i64 0]) ∧ Es w w' g (addAll l) else r = .returned (.tuple #[.pointer none, .int .i64 1])
theorem ok_upto {l : List S27} {n : Nat} (hn : l.length = n) (h : ∀ k : Nat, k < n → (rd_T27 l k).f0 < (rd_T27 l k).f1) : allOk l = true := by
  rw [allOk, List.all_eq_true]
  intro x hx
  obtain ⟨i, hi, rfl⟩ := mem_rd hx
  simpa using h i (by omega)
theorem ok_not {l : List S27} {k : Nat} (hk : k < l.length) (h : ¬ (rd_T27 l k).f0 < (rd_T27 l k).f1) : ¬ allOk l = true := by
  rw [allOk, List.all_eq_true]
  intro g
  exact h (by simpa using g _ (rd_mem hk))
theorem addAll_next {l : List S27} {k : Nat} {x : S27} (hk : k < l.length) (hx : rd_T27 l k = x) : addAll (l.take (k + 1)) = addF (addAll (l.take k)) x := by
  have hx2 : l[k] = x := by rw [← hx]; simp [rd_T27, hk]
  rw [addAll, List.take_succ_eq_append_getElem hk, List.foldl_append, hx2]
  rfl
set_option maxHeartbeats 8000000 in
set_option maxRecDepth 100000 in
theorem new9 (w : World) (A : Option Addr) (c : Nat) (l : List S27) (hC : Kd.C k27 w A l.length l) (hl : l.length ≤ 100000) (hL : allOk l = true → ∀ k, k ≤ l.length → (addAll (l.take k)).length ≤ 100000) :
    Calls Try.prog 9 #[.slice A l.length c] w (NewQ w l) := by
  have hchk := Aside0.mk check12
  obtain ⟨n, hn⟩ : ∃ n, l.length = n := ⟨_, rfl⟩
  rw [hn] at hC hl hL ⊢
  have HC := Aside0.mk hC
  have HN := Aside0.mk hn
  have HL := Aside0.mk hL
  clear hC hn hL
  go_enter Try.func9, Try.ntmps9
  go_wp2_with (first
    | ((with_reducible refine gate_dst (N := 10) rfl ?_); refine box_event ?hg (N := 10) ?hd (cs := #[.slice none 0 0]) (t := 64) ?hr ?_; (case hd => rfl); (case hg => rfl); (case hr => first | (go_simp; done) | (go_simp; rfl)); intro g hge w1 hbox hb; have HE := Aside0.mk (show Es w w1 g (addAll []) from ⟨_, hbox, Kd.R_nil _ _ _ _ _, hb, by omega⟩); clear hb hbox hge))
  go_loopw [13] (fun i W => ∃ k : Nat, k ≤ n ∧ i = .int .i64 k ∧ Aside0 (∀ j : Nat, j < k → (rd_T27 l j).f0 < (rd_T27 l j).f1) ∧ Aside0 (Es w W g (addAll []))) (fun i _ => n - (intOf i).toNat)
  case atStart => exact ⟨0, Nat.zero_le _, rfl, ⟨fun j hj => absurd hj (Nat.not_lt_zero _)⟩, HE⟩
  case round =>
    clear HE
    obtain ⟨k, hk, rfl, HA, HE⟩ := hrel
    by_cases hkn : k < n
    · clear hk
      obtain ⟨x, hx⟩ : ∃ x, rd_T27 l (k : Int) = x := ⟨_, rfl⟩
      have hC := Kd.C_below HC.out HE.out.below
      obtain ⟨ad, eA, x0, x1, x2⟩ := at_T27 hC (k : Int) (by omega) (by omega)
      subst eA
      rw [hx] at x0 x1 x2
      rw [Int.toNat_natCast] at x0 x1 x2
      have HX := Aside0.mk hx
      clear hx hC
      by_cases hv : x.f0 < x.f1
      · have HV := Aside0.mk hv
        clear hv
        go_wp2_with (go_at_call 12; refine (hchk.out _ x).mono ?_; rintro r w2 ⟨rfl, hb⟩; rw [if_pos HV.out]; replace HE := Aside0.mk ((HE.out.then_ (below_alloc (Below.refl _ _) _)).then_ hb); clear hb)
        go_roundw
        case measure => simp [intOf]; omega
        case rel =>
          refine ⟨k + 1, by omega, by go_num, ⟨fun j hj => ?_⟩, HE⟩
          rcases Nat.lt_or_ge j k with h | h
          · exact HA.out j h
          · obtain rfl : j = k := by omega
            rw [HX.out]; exact HV.out
      · have HV := Aside0.mk hv
        have HT := Aside0.mk (ok_not (l := l) (k := k) (by rw [HN.out]; exact hkn) (by rw [HX.out]; exact hv))
        clear hv
        go_wp2_with (go_at_call 12; refine (hchk.out _ x).mono ?_; rintro r w2 ⟨rfl, hb⟩; rw [if_neg HV.out]; replace HE := Aside0.mk ((HE.out.then_ (below_alloc (Below.refl _ _) _)).then_ hb); clear hb)
        go_ret2
        exact ⟨HE.out.below, by rw [if_neg HT.out]; rfl⟩
    · obtain rfl : k = n := by omega
      have HOK := Aside0.mk (ok_upto HN.out HA.out)
      clear HA hk hkn
      go_wp2_with fail
      go_loopw [23] (fun i W => ∃ j : Nat, j ≤ k ∧ i = .int .i64 j ∧ Aside0 (Es w W g (addAll (l.take j)))) (fun i _ => k - (intOf i).toNat)
      case atStart => exact ⟨0, Nat.zero_le _, rfl, by simpa using HE⟩
      case round =>
        clear HE
        obtain ⟨j, hj, rfl, HE⟩ := hrel
        by_cases hjn : j < k
        · clear hj
          obtain ⟨x, hx⟩ : ∃ x, rd_T27 l (j : Int) = x := ⟨_, rfl⟩
          have hC := Kd.C_below HC.out HE.out.below
          obtain ⟨ad, eA, x0, x1, x2⟩ := at_T27 hC (j : Int) (by omega) (by omega)
          subst eA
          rw [hx] at x0 x1 x2
          rw [Int.toNat_natCast] at x0 x1 x2
          have HX := Aside0.mk hx
          clear hx hC
          have HV := Aside0.mk (show x.f0 < x.f1 from by
            have h := List.all_eq_true.mp HOK.out _ (rd_mem (xs := l) (i := j) (by rw [HN.out]; exact hjn))
            rw [HX.out] at h
            simpa using h)
          have HS := Aside0.mk (addAll_next (l := l) (by rw [HN.out]; exact hjn) HX.out)
          have HE2 := Aside0.mk (HE.out.then_ (below_alloc (Below.refl _ _) (.cells #[.string x.f0, .string x.f1, .int .u64 x.f2] 27)))
          go_wp2_with (go_at_call 14; refine (addE HE2.out (HL.out HOK.out j (by omega)) HV.out).mono ?_; rintro r w2 ⟨rfl, hE, _⟩; have HE3 := Aside0.mk hE; clear hE)
          go_roundw
          case measure => simp [intOf]; omega
          case rel => exact ⟨j + 1, by omega, by go_num, ⟨by rw [HS.out]; exact HE3.out⟩⟩
        · obtain rfl : j = k := by omega
          go_wp2_with fail
          go_ret2
          exact ⟨HE.out.below, by rw [if_pos HOK.out]; exact ⟨g, rfl, by have h := HE.out; rw [← HN.out, List.take_length] at h; exact h⟩⟩
end Go.Proofs.Ytpfkfnphjbgohaa.El
