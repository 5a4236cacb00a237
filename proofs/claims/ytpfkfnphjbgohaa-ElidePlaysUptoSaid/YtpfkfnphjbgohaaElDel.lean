/-
  slices.DeleteFunc at a row of elisions of one's own.
-/
import Derived.Test.YtpfkfnphjbgohaaElIdx
import Derived.Test.YtpfkfnphjbgohaaElRFor
set_option linter.unusedVariables false
set_option linter.unusedSimpArgs false
namespace Go.Proofs.Ytpfkfnphjbgohaa.El
open Go.RowKit Go.Proofs.YtpfkfnphjbgohaaW.PrintWords Go.Proofs.YtpfkfnphjbgohaaW.PrintLast Go.Proofs.YtpfkfnphjbgohaaW.PrintMore Go.Proofs.Ytpfkfnphjbgohaa.PEa
attribute [local go_sem] binS_leq binS_gtr binS_geq max2_int min2_int max_two min_two maxS_two minS_two
/-- The state of the second loop: the first j have been looked at, i of them are kept and lie at the row's head. -/
structure DelSt (d : S27 → Bool) (xs ys : List S27) (i j : Nat) : Prop where
  len : ys.length = xs.length
  lt : i < j
  le : j ≤ xs.length
  head : ys.take i = (xs.take j).filter (fun x => !d x)
  tail : ∀ k, j ≤ k → k < xs.length → rd_T27 ys (k : Int) = rd_T27 xs (k : Int)
theorem rd_set_ne {ys : List S27} {i k : Nat} {x : S27} (h : i ≠ k) : rd_T27 (ys.set i x) (k : Int) = rd_T27 ys (k : Int) := by
  unfold rd_T27
  simp [h]
theorem DelSt.keep {d : S27 → Bool} {xs ys : List S27} {i j : Nat} {x : S27} (h : DelSt d xs ys i j) (hj : j < xs.length) (hx : rd_T27 xs (j : Int) = x) (hd : d x = false) : DelSt d xs (ys.set i x) (i + 1) (j + 1) := by
  have hi : i < ys.length := by have := h.len; have := h.lt; omega
  refine ⟨by rw [List.length_set]; exact h.len, by have := h.lt; omega, by omega, ?_, fun k hk hl => ?_⟩
  · rw [filter_take hj hx, if_pos (by rw [hd]; rfl), List.take_succ_eq_append_getElem (by rw [List.length_set]; exact hi), List.getElem_set_self, List.take_set_of_le (Nat.le_refl _), h.head]
  · rw [rd_set_ne (by have := h.lt; omega)]
    exact h.tail k (by omega) hl
theorem DelSt.drop {d : S27 → Bool} {xs ys : List S27} {i j : Nat} {x : S27} (h : DelSt d xs ys i j) (hj : j < xs.length) (hx : rd_T27 xs (j : Int) = x) (hd : d x = true) : DelSt d xs ys i (j + 1) := by
  refine ⟨h.len, by have := h.lt; omega, by omega, ?_, fun k hk hl => h.tail k (by omega) hl⟩
  rw [filter_take hj hx, if_neg (by rw [hd]; decide), h.head]
theorem take_all {d : S27 → Bool} {xs : List S27} : ∀ k, k ≤ xs.length → (∀ q < k, d (rd_T27 xs (q : Int)) = false) → (xs.take k).filter (fun x => !d x) = xs.take k
  | 0, _, _ => rfl
  | k + 1, h, hq => by
    have e : xs.take (k + 1) = xs.take k ++ [rd_T27 xs (k : Int)] := by
      rw [List.take_add, List.drop_eq_getElem_cons (by omega)]
      congr 1
      rw [show rd_T27 xs (k : Int) = xs[k] by simp [rd_T27, rdOf, show k < xs.length by omega]]
      rfl
    rw [e, List.filter_append, take_all k (by omega) (fun q h => hq q (by omega)), List.filter_cons_of_pos (by rw [hq k (by omega)]; rfl)]
    rfl
theorem DelSt.start {d : S27 → Bool} {xs : List S27} {i : Nat} (hi : i < xs.length) (hd : d (rd_T27 xs (i : Int)) = true) (h : ∀ q < i, d (rd_T27 xs (q : Int)) = false) : DelSt d xs xs i (i + 1) := by
  refine ⟨rfl, by omega, by omega, ?_, fun _ _ _ => rfl⟩
  rw [filter_take hi rfl, if_neg (by rw [hd]; decide), take_all i (by omega) h]
theorem none_all {d : S27 → Bool} : ∀ {l : List S27} {m : Nat}, fst27 d l m = none → l.filter (fun x => !d x) = l
  | [], _, _ => rfl
  | x :: l, m, h => by
    rw [fst27] at h
    by_cases hx : d x = true
    · rw [if_pos hx] at h; cases h
    · rw [if_neg hx] at h
      rw [List.filter_cons_of_pos (by simpa using hx), none_all h]
theorem oneC27 (x : S27) : ∀ q ∈ [Value.string x.f0, .string x.f1, .int .u64 x.f2], q.oneCell' = true := by
  intro q hq
  simp only [List.mem_cons, List.not_mem_nil, or_false] at hq
  rcases hq with rfl | rfl | rfl <;> rfl
theorem R_blk {W : World} {base bb n c : Nat} {ok : Nat → Prop} {ys : List S27} (h : Kd.R k27 27 W base ok (.slice (some ⟨bb, 0, none⟩) n c) ys) (hp : 0 < ys.length) : ∃ cells, W.heap[bb]? = some (.cells cells 27 (0, 0)) := by
  obtain ⟨g, cap, e, _, _, cells, hc⟩ := Kd.R_form h hp
  injection e with q1
  injection q1 with q1
  injection q1 with q1
  subst q1
  exact ⟨cells, hc⟩
set_option maxHeartbeats 8000000 in
set_option maxRecDepth 100000 in
theorem delete52 (w0 w : World) (v : Value) (xs : List S27) (g : Nat) (caps : Array Value) (d : S27 → Bool) (Inv : World → Prop)
    (hR : Kd.R k27 27 w w0.heap.size (fun _ => True) v xs) (hB : Below w0.heap.size w0 w) (hl : xs.length ≤ 1000000)
    (he : ∀ (args : Array Value) (w : World), (callFunc g args).run Try.prog w = .ok (.enter g args) w)
    (hI : Inv w) (hI1 : ∀ W W' : World, Inv W → Below W.heap.size W W' → Inv W') (hI2 : ∀ (W W' : World) (b : Nat) (cells : Array Value), Inv W → W.heap[b]? = some (.cells cells 27 (0, 0)) → W.grownBy W' (some b) → Inv W') (hf : Says Inv g caps d) :
    Calls Try.prog 52 #[v, .func (.func g) #[] caps] w fun e w' => ∃ v', e = .returned v' ∧ Kd.R k27 27 w' w0.heap.size (fun _ => True) v' (xs.filter (fun x => !d x)) ∧ Below w0.heap.size w0 w' := by
  obtain ⟨A, c, rfl, hlc, hC⟩ := Kd.R_reads hR
  have hcall := Aside0.mk (index56 w A c xs g caps d Inv hC he hI hI1 hf)
  obtain ⟨n, hn⟩ : ∃ n, xs.length = n := ⟨_, rfl⟩
  rw [hn] at hcall hR hl ⊢
  have HR := Aside0.mk hR
  have HB := Aside0.mk hB
  have HN := Aside0.mk hn
  have HI := Aside0.mk hI
  have HI1 := Aside0.mk hI1
  have HI2 := Aside0.mk hI2
  have HF := Aside0.mk hf
  clear hR hB hC hlc hn hI hI1 hI2 hf
  cases hfi : fst27 d xs 0 with
  | none =>
    rw [hfi] at hcall
    have HA := Aside0.mk (none_all hfi)
    clear hfi
    go_enter Try.func52, Try.ntmps52
    go_wp2_with (go_at_call 56; refine hcall.out.mono ?_; rintro r w1 ⟨rfl, hb⟩; have HBx := Aside0.mk hb; clear hb; rw [show idxI none = -1 from rfl])
    go_ret
    exact ⟨_, rfl, by rw [HA.out]; exact Kd.R_below HR.out HBx.out, below_then HB.out HB.out.size HBx.out⟩
  | some i0 =>
    rw [hfi] at hcall
    obtain ⟨i1, e1, h1, h2, h3⟩ := fst27_at hfi
    rw [Nat.zero_add] at e1
    subst e1
    have HD := Aside0.mk (DelSt.start h1 h2 h3)
    rw [HN.out] at h1
    clear hfi h2 h3
    obtain ⟨bb, cap, eA, hbg, hgl, cells, hcells⟩ := Kd.R_form HR.out (by rw [HN.out]; omega)
    injection eA with q1 q2 q3
    subst q1
    subst q3
    clear q2
    have hin : decide ((i0 : Int) = -1) = false := decide_eq_false (by omega)
    go_enter Try.func52, Try.ntmps52
    go_wp2_with (go_at_call 56; refine hcall.out.mono ?_; rintro r w1 ⟨rfl, hb⟩; have HBx := Aside0.mk hb; clear hb; rw [show idxI (some i0) = (i0 : Int) from rfl])
    have hin2 : ((i0 : Int) == -1) = false := by simp
    rw [hin2]
    clear hin2
    have HW1 := Aside0.mk (below_then HB.out HB.out.size HBx.out)
    have HR1 := Aside0.mk (Kd.R_below HR.out HBx.out)
    have HI0 := Aside0.mk (HI1.out _ _ HI.out HBx.out)
    clear HR HI HB hcells hgl hcall hin
    go_loopw [5, 6] (fun ti tj W => ∃ (i j : Nat) (ys : List S27), ti = .int .i64 i ∧ tj = .int .i64 j ∧ i < j ∧ j ≤ n ∧ Aside0 (DelSt d xs ys i j) ∧ Aside0 (Kd.R k27 27 W w0.heap.size (fun _ => True) (.slice (some ⟨bb, 0, none⟩) n c) ys) ∧ Aside0 (Below w0.heap.size w0 W) ∧ Aside0 (Inv W)) (fun _ tj _ => n - (intOf tj).toNat)
    case atStart => exact ⟨i0, i0 + 1, xs, rfl, by go_num, by omega, by omega, HD, HR1, HW1, HI0⟩
    case round =>
      obtain ⟨i, j, ys, rfl, rfl, hij, hj, HS, HO, HB, HV⟩ := hrel
      clear HD HR1 HW1 HI0 h1 HBx
      by_cases hjn : j < n
      · clear hj
        obtain ⟨x, hx⟩ : ∃ x, rd_T27 xs (j : Int) = x := ⟨_, rfl⟩
        obtain ⟨cx, hcl, hM, hcc, hfr⟩ := Kd.R_elem HO.out z27 (j : Int) (by omega) (by omega)
        rw [show ys.getD (j : Int).toNat z27 = x by rw [← hx, ← HS.out.tail j (Nat.le_refl _) (by rw [HN.out]; exact hjn)]; rfl] at hM
        obtain rfl := k27_openM hM
        have x0 : wr.cell? ⟨bb, j * 3, none⟩ = some (.string x.f0) := hcc 0 _ rfl
        have x1 : wr.cell? ⟨bb, j * 3 + 1, none⟩ = some (.string x.f1) := hcc 1 _ rfl
        have x2 : wr.cell? ⟨bb, j * 3 + 2, none⟩ = some (.int .u64 x.f2) := hcc 2 _ rfl
        clear hcl hM hcc hfr
        have HBa := below_alloc (Below.refl wr.heap.size wr) (.cells #[.string x.f0, .string x.f1, .int .u64 x.f2] 27)
        have hcall := HF.out x (wr.alloc (.cells #[.string x.f0, .string x.f1, .int .u64 x.f2] 27)) (HI1.out _ _ HV.out HBa)
        have HBX := Aside0.mk (show box27 (wr.alloc (.cells #[.string x.f0, .string x.f1, .int .u64 x.f2] 27)) wr.heap.size x from blk_new wr _)
        have HBA := Aside0.mk HBa
        have HX := Aside0.mk hx
        clear HBa hx
        cases hd : d x
        · rw [hd] at hcall
          have HD := Aside0.mk hd
          clear hd
          go_wp2_with (first
            | (refine hcall.mono ?_; rintro e w2 ⟨rfl, hb⟩; have hbc := box_cells (show box27 w2 wr.heap.size x from blk_below HBX.out hb); have HO2 := Aside0.mk (Kd.R_below (Kd.R_below HO.out HBA.out) hb); have HB2 := Aside0.mk (below_then (below_then HB.out HB.out.size HBA.out) (by have := HB.out.size; have := HBA.out.size; omega) hb); have HV2 := Aside0.mk (HI1.out _ _ (HI1.out _ _ HV.out HBA.out) hb); obtain ⟨ci, hcl, hM, hcc, hfr⟩ := Kd.R_elem HO2.out z27 (i : Int) (by omega) (by omega); obtain rfl := k27_openM hM; have Hcl := Aside0.mk hcl; have Hcc := Aside0.mk hcc; clear hM hfr hcl hcc hb x0 x1 x2 hcall)
            | ((with_reducible refine gate_store (t := 27) (p := 33) (v := .tmp 32) rfl ?_); refine Kd.R_store k27 w0.heap.size rfl rfl 27 (.tmp 33) (.tmp 32) rfl 27 (g := bb) (n := n) (cap := c) (i : Int) 0 ys x (.agg #[.string x.f0, .string x.f1, .int .u64 x.f2]) [.string x.f0, .string x.f1, .int .u64 x.f2] _ (fun _ => True) (fun _ => False) rfl (by show i * 3 = (i : Int).toNat * 3 + 0; omega) rfl rfl (by kernel_rfl) (oneC27 x) HO2.out (by omega) (by omega) Hcl.out Hcc.out (by show 0 + 3 ≤ 3; omega) (k27_mkM _ _ _ x) (fun _ h => h.elim) HB2.out ?_; intro w3 hR3 hB3 hg3; have HR3 := Aside0.mk hR3; have HB3 := Aside0.mk hB3; have HG3 := Aside0.mk hg3; clear hR3 hB3 hg3 hbc))
          have HV3 := Aside0.mk (by
            obtain ⟨cells, hcells⟩ := R_blk HO2.out (by rw [HS.out.len, HN.out]; omega)
            exact HI2.out _ _ bb cells HV2.out hcells HG3.out)
          rw [Int.toNat_natCast] at HR3
          clear HG3 HV2 HB2 HO2 Hcc Hcl HBA HBX
          have HS3 := Aside0.mk (HS.out.keep (by rw [HN.out]; exact hjn) HX.out HD.out)
          go_roundw
          case measure => simp [intOf]; omega
          case rel => exact ⟨i + 1, j + 1, _, by go_num, by go_num, by omega, by omega, HS3, HR3, HB3, HV3⟩
        · rw [hd] at hcall
          have HD := Aside0.mk hd
          clear hd
          go_wp2_with (refine hcall.mono ?_; rintro e w2 ⟨rfl, hb⟩; have HO2 := Aside0.mk (Kd.R_below (Kd.R_below HO.out HBA.out) hb); have HB2 := Aside0.mk (below_then (below_then HB.out HB.out.size HBA.out) (by have := HB.out.size; have := HBA.out.size; omega) hb); have HV2 := Aside0.mk (HI1.out _ _ (HI1.out _ _ HV.out HBA.out) hb); clear hb x0 x1 x2 hcall)
          have HS3 := Aside0.mk (HS.out.drop (by rw [HN.out]; exact hjn) HX.out HD.out)
          clear HBA HBX
          go_roundw
          case measure => simp [intOf]; omega
          case rel => exact ⟨i, j + 1, ys, rfl, by go_num, by omega, by omega, HS3, HO2, HB2, HV2⟩
      · obtain rfl : j = n := by omega
        have hic : j ≤ c := (Kd.R_reads' HO.out).2.1
        obtain ⟨i9, hi9, hz9⟩ := Option.map_eq_some_iff.1 info27
        have hs9 : i9.size = 3 := by simp only [Prod.mk.injEq] at hz9; exact hz9.2.1
        have hcut1 : ∀ W : World, (Instr.slice 22 (.slice (some ⟨bb, 0, none⟩) j c) (some (.int .i64 (i : Int))) none none).run Try.prog W = .ok (.slice (some ⟨bb, i * 3, none⟩) (j - i) (c - i)) W := by
          intro W
          rw [cut_from 22 27 .i64 Try.underlying22 hi9 3 hs9 _ _ _ _ (by omega) (by omega), Int.toNat_natCast, if_neg (by omega), Option.map_some, add_plain]
        have hcut2 : ∀ W : World, (Instr.slice 22 (.slice (some ⟨bb, 0, none⟩) j c) none (some (.int .i64 (i : Int))) none).run Try.prog W = .ok (.slice (some ⟨bb, 0, none⟩) i c) W := by
          intro W
          rw [cut_to 22 27 .i64 Try.underlying22 hi9 _ _ _ _ (by omega) (by omega) hic, Int.toNat_natCast]
        obtain ⟨w9, hrun, hR9, hg9⟩ := R_clear_run HO.out hij 0 (c - i)
        have HR9 := Aside0.mk hR9
        have HB9 := Aside0.mk (HB.out.grown hg9 HB.out.size (fun k hk => by cases hk; exact hbg))
        have HFl := Aside0.mk (show (wipe ys i (j - i)).take i = xs.filter (fun x => !d x) by rw [wipe_take _ _ _ _ (Nat.le_refl _), HS.out.head, List.take_of_length_le (by rw [HN.out]; exact Nat.le_refl _)])
        have HLe := Aside0.mk (show i ≤ (wipe ys i (j - i)).length by rw [wipe_len, HS.out.len, HN.out]; omega)
        clear hg9 hR9 hi9 hz9 hs9 HV HS
        go_wp2_with fail
        go_ret
        exact ⟨_, rfl, by rw [← HFl.out]; exact Kd.R_take HR9.out HLe.out, HB9.out⟩
end Go.Proofs.Ytpfkfnphjbgohaa.El
