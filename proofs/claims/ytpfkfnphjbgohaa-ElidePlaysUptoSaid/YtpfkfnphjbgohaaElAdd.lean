/-
  Add: an elision laid into a set.
-/
import Derived.Test.YtpfkfnphjbgohaaElLay
set_option linter.unusedVariables false
set_option linter.unusedSimpArgs false
namespace Go.Proofs.Ytpfkfnphjbgohaa.El
open Go.RowKit Go.Proofs.YtpfkfnphjbgohaaW.PrintWords Go.Proofs.YtpfkfnphjbgohaaW.PrintLast Go.Proofs.YtpfkfnphjbgohaaW.PrintMore Go.Proofs.Ytpfkfnphjbgohaa.PEa
attribute [local go_sem] binS_leq binS_gtr binS_geq max2_int min2_int max_two min_two maxS_two minS_two
def addStep (e : S27) (s : List S27 × ByteArray) (x : S27) : List S27 × ByteArray :=
  if x.f1 ≤ e.f0 ∨ e.f1 ≤ x.f0 then
    (if e.f1 ≤ x.f0 then (layF (layF s.1 s.2 e.f1 e.f2) x.f0 x.f1 x.f2, e.f1) else (layF s.1 x.f0 x.f1 x.f2, s.2))
  else (layF (layF (layF (layF s.1 x.f0 e.f0 x.f2) s.2 x.f0 e.f2) (mxS x.f0 e.f0) (mnS x.f1 e.f1) (if x.f2 < e.f2 then e.f2 else x.f2)) e.f1 x.f1 x.f2, mnS x.f1 e.f1)
def addF (xs : List S27) (e : S27) : List S27 :=
  layF (xs.foldl (addStep e) ([], e.f0)).1 (xs.foldl (addStep e) ([], e.f0)).2 e.f1 e.f2
theorem check12 (w : World) (e : S27) : Calls Try.prog 12 #[.agg #[.string e.f0, .string e.f1, .int .u64 e.f2]] w fun r w' => r = .returned (.int .i64 (if e.f0 < e.f1 then 0 else 1)) ∧ Below w.heap.size w w' := by
  refine elide_Check.calls e.f0 e.f1 e.f2 _ w ?_
  unfold elide_Check.f
  by_cases h : e.f0 < e.f1
  · rw [if_pos (less_true.mpr h), if_pos h]
  · rw [if_neg (fun g => h (less_true.mp g)), if_neg h]
theorem layF_le {xs : List S27} {m : Nat} (h : xs.length ≤ m) {lo hi : ByteArray} {seq : Int} : (layF xs lo hi seq).length ≤ m + 1 := by
  unfold layF
  split
  · split
    · split <;> simp <;> omega
    · simp
  · omega
/-- Inside Add: e, x and out in their boxes. -/
def Px (w0 : World) (ge gb gx : Nat) : Nat → Prop := fun k => w0.heap.size ≤ k ∧ k ≠ ge ∧ k ≠ gb ∧ k ≠ gx
def box27 (W : World) (g : Nat) (e : S27) : Prop := W.heap[g]? = some (.cells #[.string e.f0, .string e.f1, .int .u64 e.f2] 27 (0, 0))
def Sx (w0 W : World) (ge gb gx : Nat) (e x : S27) (m : Nat) (out : List S27) : Prop :=
  out.length ≤ m ∧ ∃ v, W.heap[gb]? = some (.cells #[v] 22 (0, 0)) ∧ Kd.R k27 27 W w0.heap.size (Px w0 ge gb gx) v out ∧ box27 W ge e ∧ box27 W gx x ∧ Below w0.heap.size w0 W ∧ w0.heap.size ≤ ge ∧ w0.heap.size ≤ gb ∧ w0.heap.size ≤ gx ∧ gb ≠ ge ∧ gb ≠ gx ∧ ge ≠ gx
def So (w0 W : World) (ge gb : Nat) (e : S27) (m : Nat) (out : List S27) : Prop :=
  out.length ≤ m ∧ ∃ v, W.heap[gb]? = some (.cells #[v] 22 (0, 0)) ∧ Kd.R k27 27 W w0.heap.size (fun k => w0.heap.size ≤ k ∧ k ≠ ge ∧ k ≠ gb) v out ∧ box27 W ge e ∧ Below w0.heap.size w0 W ∧ w0.heap.size ≤ ge ∧ w0.heap.size ≤ gb ∧ gb ≠ ge
theorem box_cells {W : World} {g : Nat} {e : S27} (h : box27 W g e) : W.cell? ⟨g, 0, none⟩ = some (.string e.f0) ∧ W.cell? ⟨g, 1, none⟩ = some (.string e.f1) ∧ W.cell? ⟨g, 2, none⟩ = some (.int .u64 e.f2) :=
  ⟨(blk_cell h 0).trans rfl, (blk_cell h 1).trans rfl, (blk_cell h 2).trans rfl⟩
theorem layS {w0 W : World} {ge gb gx : Nat} {e x : S27} {m : Nat} {out : List S27} (h : Sx w0 W ge gb gx e x m out) (lo hi : ByteArray) (seq : Int) (hm : m ≤ 1000000) :
    Calls Try.prog 37 #[.string lo, .string hi, .int .u64 seq, .pointer (some ⟨gb, 0, none⟩)] W fun r w' => r = .returned (.tuple #[]) ∧ Sx w0 w' ge gb gx e x (m + 1) (layF out lo hi seq) := by
  obtain ⟨hm0, v, hb, hR, he, hx, hB, h1, h2, h3, n1, n2, n3⟩ := h
  refine (lay37 W w0.heap.size gb _ v out lo hi seq hb hR h2 (fun k hk => ?_) (fun k hk => hk.1) (Nat.le_trans hm0 hm)).mono ?_
  · have := blk_lt he; have := blk_lt hb; have := blk_lt hx; have := hB.size
    exact ⟨by omega, by omega, by omega, by omega⟩
  · rintro r w' ⟨rfl, v', hb', hR', hK, hB'⟩
    refine ⟨rfl, layF_le hm0, v', hb', hR', blk_kept he hK ?_, blk_kept hx hK ?_, hB.trans hB', h1, h2, h3, n1, n2, n3⟩
    · rintro (hp | hp)
      · exact hp.2.1 rfl
      · exact n1 hp.symm
    · rintro (hp | hp)
      · exact hp.2.2.2 rfl
      · exact n2 hp.symm
theorem layO {w0 W : World} {ge gb : Nat} {e : S27} {m : Nat} {out : List S27} (h : So w0 W ge gb e m out) (lo hi : ByteArray) (seq : Int) (hm : m ≤ 1000000) :
    Calls Try.prog 37 #[.string lo, .string hi, .int .u64 seq, .pointer (some ⟨gb, 0, none⟩)] W fun r w' => r = .returned (.tuple #[]) ∧ So w0 w' ge gb e (m + 1) (layF out lo hi seq) := by
  obtain ⟨hm0, v, hb, hR, he, hB, h1, h2, n1⟩ := h
  refine (lay37 W w0.heap.size gb _ v out lo hi seq hb hR h2 (fun k hk => ?_) (fun k hk => hk.1) (Nat.le_trans hm0 hm)).mono ?_
  · have := blk_lt he; have := blk_lt hb; have := hB.size
    exact ⟨by omega, by omega, by omega⟩
  · rintro r w' ⟨rfl, v', hb', hR', hK, hB'⟩
    refine ⟨rfl, layF_le hm0, v', hb', hR', blk_kept he hK ?_, hB.trans hB', h1, h2, n1⟩
    rintro (hp | hp)
    · exact hp.2.1 rfl
    · exact n1 hp.symm
theorem Sx_new {w0 W : World} {ge gb : Nat} {e : S27} {m : Nat} {out : List S27} (h : So w0 W ge gb e m out) (x : S27) : Sx w0 (W.alloc (.cells #[.string x.f0, .string x.f1, .int .u64 x.f2] 27)) ge gb W.heap.size e x m out := by
  obtain ⟨hm0, v, hb, hR, he, hB, h1, h2, n1⟩ := h
  have := blk_lt he; have := blk_lt hb; have := hB.size
  refine ⟨hm0, v, blk_alloc hb _, Kd.R_mono (Kd.R_bound (Kd.R_alloc (Kd.R_bound hR) _)) ?_, blk_alloc he _, blk_new W _, below_alloc hB _, h1, h2, by omega, n1, by omega, by omega⟩
  rintro k ⟨⟨⟨a, b, c⟩, d, e, _⟩, _⟩
  exact ⟨a, b, c, by omega⟩
theorem Sx_old {w0 W : World} {ge gb gx : Nat} {e x : S27} {m : Nat} {out : List S27} (h : Sx w0 W ge gb gx e x m out) : So w0 W ge gb e m out := by
  obtain ⟨hm0, v, hb, hR, he, hx, hB, h1, h2, h3, n1, n2, n3⟩ := h
  exact ⟨hm0, v, hb, Kd.R_mono hR (fun k hk => ⟨hk.1, hk.2.1, hk.2.2.1⟩), he, hB, h1, h2, n1⟩
theorem Sx_cells {w0 W : World} {ge gb gx : Nat} {e x : S27} {m : Nat} {out : List S27} (h : Sx w0 W ge gb gx e x m out) : (W.cell? ⟨ge, 0, none⟩ = some (.string e.f0) ∧ W.cell? ⟨ge, 1, none⟩ = some (.string e.f1) ∧ W.cell? ⟨ge, 2, none⟩ = some (.int .u64 e.f2)) ∧ W.cell? ⟨gx, 0, none⟩ = some (.string x.f0) ∧ W.cell? ⟨gx, 1, none⟩ = some (.string x.f1) ∧ W.cell? ⟨gx, 2, none⟩ = some (.int .u64 x.f2) := by
  obtain ⟨_, v, hb, hR, he, hx, _⟩ := h
  exact ⟨box_cells he, box_cells hx⟩
theorem So_cells {w0 W : World} {ge gb : Nat} {e : S27} {m : Nat} {out : List S27} (h : So w0 W ge gb e m out) : W.cell? ⟨ge, 0, none⟩ = some (.string e.f0) ∧ W.cell? ⟨ge, 1, none⟩ = some (.string e.f1) ∧ W.cell? ⟨ge, 2, none⟩ = some (.int .u64 e.f2) := by
  obtain ⟨_, v, hb, hR, he, _⟩ := h
  exact box_cells he
theorem So_start {w w2 w3 : World} {ge gb : Nat} {e : S27} (hge : ge = w.heap.size) (hX : box27 w2 ge e) (hB : Below w.heap.size w w2) (hgb : gb = w2.heap.size) (hb : w3.heap[gb]? = some (.cells #[.slice none 0 0] 22 (0, 0))) (hB3 : Below w2.heap.size w2 w3) : So w w3 ge gb e 0 [] := by
  have := blk_lt hX; have := hB.size
  exact ⟨Nat.le_refl _, _, hb, Kd.R_nil _ _ _ _ _, blk_below hX hB3, below_then hB hB.size hB3, by omega, by omega, by omega⟩
theorem So_below {w W : World} {ge gb : Nat} {e : S27} {m : Nat} {out : List S27} (h : So w W ge gb e m out) : Below w.heap.size w W := by
  obtain ⟨_, v, hb, hR, he, hB, _⟩ := h
  exact hB
def AddQ (w : World) (g : Nat) (ys : List S27) (w' : World) : Prop :=
  ∃ v', w'.heap[g]? = some (.cells #[v'] 64 (0, 0)) ∧ Kd.R k27 27 w' w.heap.size (fun _ => True) v' ys ∧ w.grownBy w' (some g)
theorem fold_next {xs : List S27} {e x : S27} {k : Nat} {s s' : List S27 × ByteArray} (hF : (xs.take k).foldl (addStep e) ([], e.f0) = s) (hx : rd_T27 xs (k : Int) = x) (hk : k < xs.length) (hs : addStep e s x = s') : (xs.take (k + 1)).foldl (addStep e) ([], e.f0) = s' := by
  have hx2 : xs[k] = x := by rw [← hx]; simp [rd_T27, hk]
  rw [List.take_succ_eq_append_getElem hk, List.foldl_append, hF, hx2]
  exact hs
theorem So_le {w0 W : World} {ge gb : Nat} {e : S27} {m m' : Nat} {out : List S27} (h : So w0 W ge gb e m out) (hm : m ≤ m') : So w0 W ge gb e m' out := ⟨Nat.le_trans h.1 hm, h.2⟩
theorem So_val {w0 W : World} {ge gb : Nat} {e : S27} {m : Nat} {out : List S27} (h : So w0 W ge gb e m out) : ∃ A n c, W.heap[gb]? = some (.cells #[.slice A n c] 22 (0, 0)) := by
  obtain ⟨_, v, hb, hR, _⟩ := h
  obtain ⟨A, n, c, rfl⟩ := R_slice3 hR
  exact ⟨A, n, c, hb⟩
theorem So_end {w W : World} {g ge gb : Nat} {u v : Value} {e : S27} {m : Nat} {out : List S27} (hs : w.heap[g]? = some (.cells #[u] 64 (0, 0))) (h : So w W ge gb e m out) (hv : W.heap[gb]? = some (.cells #[v] 22 (0, 0))) : AddQ w g out (W.setCell ⟨g, 0, none⟩ v) := by
  obtain ⟨_, v', hb, hR, he, hB, _⟩ := h
  rw [hb] at hv
  obtain rfl : v' = v := by simpa using hv
  have hg := blk_below hs hB
  refine ⟨v', one_setCell hg, Kd.R_set (Kd.R_mono hR (fun _ _ => trivial)) hg (by decide) 0 v', hB.os, hB.tape, hB.output, ?_, ?_⟩
  · have := hB.size; simpa [World.setCell] using this
  · intro i hi hne
    rw [Below.heap_setCell W ⟨g, 0, none⟩ v' i (by intro e; subst e; exact hne rfl)]
    exact hB.block i hi
set_option maxHeartbeats 8000000 in
set_option maxRecDepth 100000 in
theorem add14 (w : World) (g : Nat) (A : Option Addr) (c : Nat) (xs : List S27) (e : S27) (hs : w.heap[g]? = some (.cells #[.slice A xs.length c] 64 (0, 0))) (hC : Kd.C k27 w A xs.length xs) (hl : xs.length ≤ 100000) (he : e.f0 < e.f1) :
    Calls Try.prog 14 #[.pointer (some ⟨g, 0, none⟩), .agg #[.string e.f0, .string e.f1, .int .u64 e.f2]] w fun r w' => r = .returned (.int .i64 0) ∧ AddQ w g (addF xs e) w' := by
  have hc := Aside0.mk check12
  obtain ⟨n, hn⟩ : ∃ n, xs.length = n := ⟨_, rfl⟩
  rw [hn] at hs hC
  have HC := Aside0.mk hC
  have HS := Aside0.mk hs
  have HN := Aside0.mk hn
  have HE := Aside0.mk he
  rw [hn] at hl
  clear hC hs hn he
  go_enter Try.func14, Try.ntmps14
  go_wp2_with (first
    | ((with_reducible refine gate_dst (N := 3) rfl ?_); refine box_event ?hg (N := 3) ?hd (cs := #[.string e.f0, .string e.f1, .int .u64 e.f2]) (t := 27) ?hr ?_; (case hd => rfl); (case hg => rfl); (case hr => first | (go_simp; done) | (go_simp; rfl)); intro ge hge w1 hbox hb; have HB := Aside0.mk hb; have HX := Aside0.mk (show box27 w1 ge e from hbox); have hce := box_cells HX.out; have HG := Aside0.mk hge; clear hb hbox hge)
    | (go_at_call 12; refine (hc.out _ e).mono ?_; rintro r w2 ⟨rfl, hb1⟩; rw [if_pos HE.out]; clear hce; have HX2 := Aside0.mk (show box27 w2 ge e from blk_below HX.out hb1); have HB2 := Aside0.mk (below_then HB.out HB.out.size hb1); clear hb1 HX HB)
    | ((with_reducible refine gate_dst (N := 6) rfl ?_); refine box_event ?hg (N := 6) ?hd (cs := #[.slice none 0 0]) (t := 22) ?hr ?_; (case hd => rfl); (case hg => rfl); (case hr => first | (go_simp; done) | (go_simp; rfl)); intro gb hgb w3 hbox hb; have HO := Aside0.mk (So_start HG.out HX2.out HB2.out hgb hbox hb); clear hgb hb hbox HX2 HB2 HG; have hce := So_cells HO.out; have hcs := cell_of_one (blk_below HS.out (So_below HO.out))))
  go_loopw [8, 24] (fun at8 i W => ∃ (k : Nat) (s : List S27 × ByteArray), k ≤ n ∧ i = .int .i64 k ∧ at8 = .string s.2 ∧ Aside0 ((xs.take k).foldl (addStep e) ([], e.f0) = s) ∧ Aside0 (So w W ge gb e (5 * k) s.1)) (fun _ i _ => n - (intOf i).toNat)
  case atStart => exact ⟨0, ([], e.f0), Nat.zero_le _, rfl, rfl, ⟨rfl⟩, HO⟩
  case round =>
    clear hce hcs HO
    obtain ⟨k, s, hk, rfl, rfl, HF, HO⟩ := hrel
    have hce := So_cells HO.out
    by_cases hkn : k < n
    · obtain ⟨x, hx⟩ : ∃ x, rd_T27 xs (k : Int) = x := ⟨_, rfl⟩
      have hC := Kd.C_below HC.out (So_below HO.out)
      obtain ⟨ad, eA, x0, x1, x2⟩ := at_T27 hC (k : Int) (by omega) (by omega)
      subst eA
      rw [hx] at x0 x1 x2
      rw [Int.toNat_natCast] at x0 x1 x2
      have HX := Aside0.mk hx
      clear hx hC
      have HR := Aside0.mk (Sx_new HO.out x)
      have hcx := Sx_cells HR.out
      by_cases h2 : e.f1 ≤ x.f0
      · have h2b : Op.bytesLess x.f0.toList e.f1.toList = false := less_false.mpr h2
        have H2 := Aside0.mk h2
        clear h2
        by_cases h1 : x.f1 ≤ e.f0
        all_goals
          first
          | have h1b : Op.bytesLess e.f0.toList x.f1.toList = false := less_false.mpr h1
          | have h1b : Op.bytesLess e.f0.toList x.f1.toList = true := less_true.mpr (by grind)
          have HT := Aside0.mk (show addStep e s x = (layF (layF s.1 s.2 e.f1 e.f2) x.f0 x.f1 x.f2, e.f1) by rw [addStep, if_pos (.inr H2.out), if_pos H2.out])
          clear h1
          go_wp2_with (go_at_call 37; refine (layS HR.out _ _ _ (by omega)).mono ?_; rintro r w5 ⟨rfl, h5⟩; clear hcx; have hcx := Sx_cells h5; replace HR := Aside0.mk h5; clear h5)
          go_roundw
          case measure => simp [intOf]; omega
          case rel =>
            exact ⟨k + 1, _, by omega, by go_num, rfl, ⟨fold_next HF.out HX.out (by rw [HN.out]; exact hkn) (HT.out)⟩, ⟨So_le (Sx_old HR.out) (by omega)⟩⟩
      · have h2b : Op.bytesLess x.f0.toList e.f1.toList = true := less_true.mpr (by grind)
        have H2 := Aside0.mk h2
        clear h2
        by_cases h1 : x.f1 ≤ e.f0
        · have h1b : Op.bytesLess e.f0.toList x.f1.toList = false := less_false.mpr h1
          have H1 := Aside0.mk h1
          have HT := Aside0.mk (show addStep e s x = (layF s.1 x.f0 x.f1 x.f2, s.2) by rw [addStep, if_pos (.inl H1.out), if_neg H2.out])
          clear h1
          go_wp2_with (go_at_call 37; refine (layS HR.out _ _ _ (by omega)).mono ?_; rintro r w5 ⟨rfl, h5⟩; clear hcx; have hcx := Sx_cells h5; replace HR := Aside0.mk h5; clear h5)
          go_roundw
          case measure => simp [intOf]; omega
          case rel =>
            exact ⟨k + 1, (layF s.1 x.f0 x.f1 x.f2, s.2), by omega, by go_num, rfl, ⟨fold_next HF.out HX.out (by rw [HN.out]; exact hkn) (HT.out)⟩, ⟨So_le (Sx_old HR.out) (by omega)⟩⟩
        · have h1b : Op.bytesLess e.f0.toList x.f1.toList = true := less_true.mpr (by grind)
          have H1 := Aside0.mk h1
          have HT := Aside0.mk (show addStep e s x = (layF (layF (layF (layF s.1 x.f0 e.f0 x.f2) s.2 x.f0 e.f2) (mxS x.f0 e.f0) (mnS x.f1 e.f1) (if x.f2 < e.f2 then e.f2 else x.f2)) e.f1 x.f1 x.f2, mnS x.f1 e.f1) by rw [addStep, if_neg (by rintro (h | h); exact H1.out h; exact H2.out h)])
          clear h1
          go_wp2_with (go_at_call 37; refine (layS HR.out _ _ _ (by omega)).mono ?_; rintro r w5 ⟨rfl, h5⟩; clear hcx; have hcx := Sx_cells h5; replace HR := Aside0.mk h5; clear h5)
          trace_state
          go_roundw
          case measure => simp [intOf]; omega
          case rel =>
            exact ⟨k + 1, _, by omega, by go_num, rfl, ⟨fold_next HF.out HX.out (by rw [HN.out]; exact hkn) (HT.out)⟩, ⟨So_le (Sx_old HR.out) (by omega)⟩⟩
    · obtain rfl : k = n := by omega
      have HT := Aside0.mk (show addF xs e = layF s.1 s.2 e.f1 e.f2 by
        have hF := HF.out
        rw [← HN.out, List.take_length] at hF
        rw [addF, hF])
      go_wp2_with (go_at_call 37; refine (layO HO.out _ _ _ (by omega)).mono ?_; rintro r w5 ⟨rfl, h5⟩; clear hce; replace HO := Aside0.mk h5; obtain ⟨Ao, mo, co, hv⟩ := So_val h5; have hcv := cell_of_one hv; have HV := Aside0.mk hv; have hb5 := blk_below HS.out (So_below h5); have hcg := cell_of_one hb5; have hfg := free_of_one hb5; clear h5 hv hb5)
      trace_state
      go_ret
      exact ⟨rfl, by rw [HT.out]; exact So_end HS.out HO.out HV.out⟩
end Go.Proofs.Ytpfkfnphjbgohaa.El
