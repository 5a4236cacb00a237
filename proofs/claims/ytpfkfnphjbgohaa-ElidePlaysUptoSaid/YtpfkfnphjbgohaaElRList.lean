/-
  The reference's List.
-/
import Derived.Test.YtpfkfnphjbgohaaElBnd
set_option linter.unusedVariables false
set_option linter.unusedSimpArgs false
namespace Go.Proofs.Ytpfkfnphjbgohaa.El
open Go.RowKit Go.Proofs.YtpfkfnphjbgohaaW.PrintWords Go.Proofs.YtpfkfnphjbgohaaW.PrintLast Go.Proofs.YtpfkfnphjbgohaaW.PrintMore Go.Proofs.Ytpfkfnphjbgohaa.PEa
attribute [local go_sem] binS_leq binS_gtr binS_geq max2_int min2_int max_two min_two maxS_two minS_two
theorem below_undrew2 {w w' : World} (h : Below w.drew.heap.size w.drew w') : Below w.heap.size w w' := ⟨h.os, h.tape, h.output, h.size, h.block⟩
def topStep (b : ByteArray) (s : Bool × Int) (e : S27) : Bool × Int := if e.f0 ≤ b ∧ b < e.f1 then (true, if s.1 = false ∨ s.2 < e.f2 then e.f2 else s.2) else s
def top (L : List S27) (b : ByteArray) : Bool × Int := L.foldl (topStep b) (false, 0)
def lay2 (xs : List S27) (lo hi : ByteArray) (seq : Int) : List S27 :=
  match xs.getLast? with
  | some z => if z.f1 = lo ∧ z.f2 = seq then xs.dropLast ++ [⟨z.f0, hi, seq⟩] else xs ++ [⟨lo, hi, seq⟩]
  | none => [⟨lo, hi, seq⟩]
theorem lay2_le (xs : List S27) (lo hi : ByteArray) (seq : Int) : (lay2 xs lo hi seq).length ≤ xs.length + 1 := by
  unfold lay2
  split
  · split
    · rw [List.length_append, List.length_dropLast]; simp only [List.length_singleton]; omega
    · simp
  · simp
def bAt (B : List ByteArray) (j : Nat) : ByteArray := rdOf ByteArray.empty B (j : Int)
def rstep (L : List S27) (B : List ByteArray) (out : List S27) (j : Nat) : List S27 :=
  if (top L (bAt B j)).1 = true then lay2 out (bAt B j) (bAt B (j + 1)) (top L (bAt B j)).2 else out
def rl (L : List S27) (B : List ByteArray) : Nat → List S27
  | 0 => []
  | j + 1 => rstep L B (rl L B j) j
theorem rl_le (L : List S27) (B : List ByteArray) : ∀ j, (rl L B j).length ≤ j
  | 0 => Nat.le_refl _
  | j + 1 => by
    have := rl_le L B j
    rw [rl, rstep]
    split
    · have := lay2_le (rl L B j) (bAt B j) (bAt B (j + 1)) (top L (bAt B j)).2; omega
    · omega
def refList (L : List S27) : List S27 := rl L (bnds L) ((bnds L).length - 1)
theorem add_succ (ad : Addr) (j : Nat) : ad.add (j + 1) = ⟨ad.block, ad.off + (j + 1), none⟩ := by
  unfold Addr.add
  split
  · rename_i h; simp at h
  · rfl
theorem top_take {L : List S27} {b : ByteArray} {m : Nat} {x : S27} (h : m < L.length) (hx : rd_T27 L (m : Int) = x) : (L.take (m + 1)).foldl (topStep b) (false, 0) = topStep b ((L.take m).foldl (topStep b) (false, 0)) x := by
  have e : L.take (m + 1) = L.take m ++ [x] := by
    rw [List.take_add, List.drop_eq_getElem_cons h, ← hx]
    congr 1
    rw [show rd_T27 L (m : Int) = L[m] by simp [rd_T27, rdOf, h]]
    rfl
  rw [e, List.foldl_append]
  rfl
set_option maxHeartbeats 8000000 in
set_option maxRecDepth 100000 in
theorem list26 (w : World) (g : Nat) (A : Option Addr) (c : Nat) (xs : List S27) (hs : w.heap[g]? = some (.cells #[.slice A xs.length c] 42 (0, 0))) (hC : Kd.C k27 w A xs.length xs) (hl : xs.length ≤ 400000) :
    Calls Try.prog 26 #[.pointer (some ⟨g, 0, none⟩)] w (CloneQ w (refList xs)) := by
  have hcall := Aside0.mk (bounds43 w g A c xs hs hC hl)
  have hov := Aside0.mk over44
  have HL0 := Aside0.mk (bnds_len xs)
  obtain ⟨n, hn⟩ : ∃ n, xs.length = n := ⟨_, rfl⟩
  obtain ⟨bs, hbs⟩ : ∃ bs, bnds xs = bs := ⟨_, rfl⟩
  obtain ⟨nb, hnb⟩ : ∃ nb, bs.length = nb := ⟨_, rfl⟩
  have hnbl := HL0.out
  rw [hbs, hnb, hn] at hnbl
  rw [hn] at hs hC hl
  have HF : Aside0 (refList xs = rl xs bs (nb - 1)) := ⟨by rw [refList, hbs, hnb]⟩
  have HC0 := Aside0.mk hC
  have HS0 := Aside0.mk hs
  have HN := Aside0.mk hn
  clear hC hs hn
  go_enter Try.func26, Try.ntmps26
  go_wp2_with (go_at_call 43; refine hcall.out.mono ?_; rintro r w1 ⟨vb, rfl, hRb, hB1⟩; rw [hbs] at hRb; obtain ⟨Ab, cb, eb⟩ := Kd.R_slice hRb; subst eb; have hCb := (Kd.R_reads' hRb).2.2; rw [hnb] at hCb ⊢; have HCb := Aside0.mk hCb; clear hCb; have HB1 := Aside0.mk hB1; have HS := Aside0.mk (blk_below HS0.out hB1); have HC := Aside0.mk (Kd.C_below HC0.out hB1); clear hRb hB1)
  clear hbs HS0 HC0 hcall
  clear HL0
  have HNb := Aside0.mk hnb
  clear hnb
  go_loopw [4, 5] (fun o i W => ∃ j : Nat, j ≤ nb - 1 ∧ i = .int .i64 j ∧ Aside0 (Kd.R k27 27 W w1.heap.size (fun _ => True) o (rl xs bs j)) ∧ Aside0 (Below w1.heap.size w1 W)) (fun _ i _ => nb - (intOf i).toNat)
  case atStart => exact ⟨0, Nat.zero_le _, rfl, ⟨Kd.R_nil _ _ _ _ _⟩, ⟨Below.refl _ _⟩⟩
  case round =>
    obtain ⟨j, hj, rfl, HO, HB⟩ := hrel
    obtain ⟨out, hout⟩ : ∃ out, rl xs bs j = out := ⟨_, rfl⟩
    have HOl := Aside0.mk (show out.length ≤ 1000000 by rw [← hout]; have := rl_le xs bs j; omega)
    have HRl := Aside0.mk (show rl xs bs (j + 1) = rstep xs bs out j by rw [rl, hout])
    rw [hout] at HO
    have HOut := Aside0.mk hout
    clear hout
    rename World => W0
    by_cases hjn : j + 1 < nb
    · have hji : (j : Int) + 1 < (nb : Int) := by omega
      obtain ⟨bi, hbi⟩ : ∃ bi, bAt bs j = bi := ⟨_, rfl⟩
      obtain ⟨bk, hbk⟩ : ∃ bk, bAt bs (j + 1) = bk := ⟨_, rfl⟩
      obtain ⟨bd, eB, c0⟩ := Kd.at_string HCb.out (j : Int) (by omega) (by omega)
      subst eB
      obtain ⟨bd', eB, c1⟩ := Kd.at_string HCb.out ((j + 1 : Nat) : Int) (by omega) (by omega)
      obtain rfl : bd = bd' := by injection eB
      have c0a : w1.cell? (bd.add j) = some (.string bi) := by rw [← hbi]; exact c0
      have c1a : w1.cell? ⟨bd.block, bd.off + (j + 1), none⟩ = some (.string bk) := by rw [← hbk, ← add_succ]; exact c1
      have HC0 := Aside0.mk c0a
      have HC1 := Aside0.mk c1a
      have HBi := Aside0.mk hbi
      have HBk := Aside0.mk hbk
      have hw : wrap64 ((j : Int) + 1) = (j : Int) + 1 := by unfold wrap64; omega
      have hnbw : nb ≤ 800000 := by omega
      clear c0 c1 c0a c1a hbi hbk eB hj
      go_wp2
      go_loopw [6, 7, 8] (fun any seq i2 W => ∃ m : Nat, m ≤ n ∧ i2 = .int .i64 m ∧ ∃ an sq, any = .bool an ∧ seq = .int .u64 sq ∧ Aside0 ((xs.take m).foldl (topStep bi) (false, 0) = (an, sq)) ∧ Aside0 (Below W0.heap.size W0 W)) (fun _ _ i2 _ => n - (intOf i2).toNat)
      case atStart => exact ⟨0, Nat.zero_le _, rfl, false, 0, rfl, rfl, ⟨rfl⟩, ⟨Below.refl _ _⟩⟩
      case round =>
        obtain ⟨m, hm, rfl, an, sq, rfl, rfl, HFo, HBx⟩ := hrel
        have HBB := Aside0.mk (below_then HB.out HB.out.size HBx.out)
        have hcg := cell_of_one (blk_below HS.out HBB.out)
        by_cases hmn : m < n
        · clear hm
          obtain ⟨x, hx⟩ : ∃ x, rd_T27 xs (m : Int) = x := ⟨_, rfl⟩
          obtain ⟨ad, eA, x0, x1, x2⟩ := at_T27 HC.out (m : Int) (by omega) (by omega)
          subst eA
          rw [hx] at x0 x1 x2
          rw [Int.toNat_natCast] at x0 x1 x2
          replace x0 := pw_cell_below HBB.out x0
          replace x1 := pw_cell_below HBB.out x1
          replace x2 := pw_cell_below HBB.out x2
          have hcb := pw_cell_below HBB.out HC0.out
          have HT := Aside0.mk (show (xs.take (m + 1)).foldl (topStep bi) (false, 0) = topStep bi (an, sq) x by rw [top_take (by rw [HN.out]; exact hmn) hx, HFo.out])
          clear hx HFo
          have hji0 : (j : Int) < (nb : Int) := by omega
          by_cases ho : x.f0 ≤ bi ∧ bi < x.f1
          · have HO1 := Aside0.mk (decide_eq_true ho)
            have HT1 := Aside0.mk (show (xs.take (m + 1)).foldl (topStep bi) (false, 0) = (true, if an = false ∨ sq < x.f2 then x.f2 else sq) by rw [HT.out, topStep, if_pos ho])
            clear ho HT
            go_wp2_with fail
            refine start_ (n := 12) (S := fun w' => w'.cell? ⟨g, 0, none⟩ = some (.slice (some ad) n c) ∧ w'.cell? (ad.add (m * 3)) = some (.string x.f0) ∧ w'.cell? ⟨(ad.add (m * 3)).block, (ad.add (m * 3)).off + 1, none⟩ = some (.string x.f1) ∧ w'.cell? ⟨(ad.add (m * 3)).block, (ad.add (m * 3)).off + 2, none⟩ = some (.int .u64 x.f2) ∧ w'.cell? (bd.add j) = some (.string bi)) (ds := [11]) #[false, false, false, false, false, false, false, false, false, false, false, false] (by kernel_rfl) rfl rfl ⟨hcg, x0, x1, x2, hcb⟩ (fun hHeld => ?_)
            refine pure_ (i := 0) (N := some 28) (v := ?_) (a' := ?_) #[true, false, false, false, false, false, false, false, false, false, false, false] rfl rfl (by kernel_rfl) (fun _ _ _ h => h) (Or.inl ⟨by rfl, ?_⟩) ?_ ?_
            rotate_left
            · intro w'
              go_simp
              with_reducible rfl
            rotate_left
            · simp only [Act.put, List.setIfInBounds_toArray, List.set_cons_zero, List.set_cons_succ, i64_w, i32_w]
              rfl
            refine pure_ (i := 1) (N := some 29) (v := ?_) (a' := ?_) #[true, true, false, false, false, false, false, false, false, false, false, false] rfl rfl (by kernel_rfl) (fun _ _ _ h => h) (Or.inl ⟨by rfl, ?_⟩) ?_ ?_
            rotate_left
            · intro w'
              go_simp
              with_reducible rfl
            rotate_left
            · simp only [Act.put, List.setIfInBounds_toArray, List.set_cons_zero, List.set_cons_succ, i64_w, i32_w]
              rfl
            refine pure_ (i := 2) (N := some 30) (v := ?_) (a' := ?_) #[true, true, true, false, false, false, false, false, false, false, false, false] rfl rfl (by kernel_rfl) (fun _ _ _ h => h) (Or.inl ⟨by rfl, ?_⟩) ?_ ?_
            rotate_left
            · intro w'
              go_simp
              with_reducible rfl
            rotate_left
            · simp only [Act.put, List.setIfInBounds_toArray, List.set_cons_zero, List.set_cons_succ, i64_w, i32_w]
              rfl
            refine pure_ (i := 4) (N := some 32) (v := ?_) (a' := ?_) #[true, true, true, false, true, false, false, false, false, false, false, false] rfl rfl (by kernel_rfl) (fun _ _ _ h => h) (Or.inl ⟨by rfl, ?_⟩) ?_ ?_
            rotate_left
            · intro w'
              go_simp
              with_reducible rfl
            rotate_left
            · simp only [Act.put, List.setIfInBounds_toArray, List.set_cons_zero, List.set_cons_succ, i64_w, i32_w]
              rfl
            refine pure_ (i := 7) (N := some 35) (v := ?_) (a' := ?_) #[true, true, true, false, true, false, false, true, false, false, false, false] rfl rfl (by kernel_rfl) (fun _ _ _ h => h) (Or.inl ⟨by rfl, ?_⟩) ?_ ?_
            rotate_left
            · intro w'
              go_simp
              with_reducible rfl
            rotate_left
            · simp only [Act.put, List.setIfInBounds_toArray, List.set_cons_zero, List.set_cons_succ, i64_w, i32_w]
              rfl
            refine pure_ (i := 8) (N := some 36) (v := ?_) (a' := ?_) #[true, true, true, false, true, false, false, true, true, false, false, false] rfl rfl (by kernel_rfl) (fun _ _ _ h => h) (Or.inl ⟨by rfl, ?_⟩) ?_ ?_
            rotate_left
            · intro w'
              go_simp
              with_reducible rfl
            rotate_left
            · simp only [Act.put, List.setIfInBounds_toArray, List.set_cons_zero, List.set_cons_succ, i64_w, i32_w]
              rfl
            refine pure_ (i := 9) (N := some 37) (v := ?_) (a' := ?_) #[true, true, true, false, true, false, false, true, true, true, false, false] rfl rfl (by kernel_rfl) (fun _ _ _ h => h) (Or.inl ⟨by rfl, ?_⟩) ?_ ?_
            rotate_left
            · intro w'
              go_simp
              with_reducible rfl
            rotate_left
            · simp only [Act.put, List.setIfInBounds_toArray, List.set_cons_zero, List.set_cons_succ, i64_w, i32_w]
              rfl
            refine take_ (i := 3) (N := some 31) (v := ?_) (a' := ?_) #[true, true, true, true, true, false, false, true, true, true, false, false] rfl rfl (by kernel_rfl) (fun _ _ _ h => h) (Or.inl ⟨by rfl, ?_⟩) hHeld ?_ ?_
            rotate_left
            · rintro w' ⟨s0, s1, s2, s3, s4⟩
              go_simp
              with_reducible rfl
            rotate_left
            · simp only [Act.put, List.setIfInBounds_toArray, List.set_cons_zero, List.set_cons_succ, i64_w, i32_w]
              rfl
            refine pure_ (i := 5) (N := some 33) (v := ?_) (a' := ?_) #[true, true, true, true, true, true, false, true, true, true, false, false] rfl rfl (by kernel_rfl) (fun _ _ _ h => h) (Or.inl ⟨by rfl, ?_⟩) ?_ ?_
            rotate_left
            · intro w'
              go_simp
              with_reducible rfl
            rotate_left
            · simp only [Act.put, List.setIfInBounds_toArray, List.set_cons_zero, List.set_cons_succ, i64_w, i32_w]
              rfl
            refine take_ (i := 6) (N := some 34) (v := ?_) (a' := ?_) #[true, true, true, true, true, true, true, true, true, true, false, false] rfl rfl (by kernel_rfl) (fun _ _ _ h => h) (Or.inl ⟨by rfl, ?_⟩) hHeld ?_ ?_
            rotate_left
            · rintro w' ⟨s0, s1, s2, s3, s4⟩
              go_simp
              with_reducible rfl
            rotate_left
            · simp only [Act.put, List.setIfInBounds_toArray, List.set_cons_zero, List.set_cons_succ, i64_w, i32_w]
              rfl
            refine take_ (i := 10) (N := some 38) (v := ?_) (a' := ?_) #[true, true, true, true, true, true, true, true, true, true, true, false] rfl rfl (by kernel_rfl) (fun _ _ _ h => h) (Or.inl ⟨by rfl, ?_⟩) hHeld ?_ ?_
            rotate_left
            · rintro w' ⟨s0, s1, s2, s3, s4⟩
              go_simp
              with_reducible rfl
            rotate_left
            · simp only [Act.put, List.setIfInBounds_toArray, List.set_cons_zero, List.set_cons_succ, i64_w, i32_w]
              rfl
            refine last_ (i := 11) (N := some 39) #[true, true, true, true, true, true, true, true, true, true, true, true] rfl rfl (by kernel_rfl) (by decide) (fun K hK => ?_)
            refine goes_ Try.func44 (by kernel_rfl) rfl #[.agg #[.string x.f0, .string x.f1, .int .u64 x.f2], .string bi] (by rfl) rfl rfl (by simp only [List.map_toArray, List.map_cons, List.map_nil]; rfl) ?_
            refine Calls.mono (hov.out _ x bi) ?_
            rintro e w5 ⟨rfl, hb5⟩
            refine ⟨_, rfl, ?_⟩
            refine hK.out _ _ ?_
            clear hK K
            refine norm_ (a' := ?_) ?_ ?_
            rotate_left
            · show Act.put _ (some 39) _ = _
              simp only [Act.put, List.setIfInBounds_toArray, List.set_cons_zero, List.set_cons_succ, i64_w, i32_w]
              rfl
            refine done_ (by kernel_rfl) ?_
            rw [HO1.out]
            replace hb5 := below_undrew2 hb5
            have HB5 := Aside0.mk (below_then HBx.out HBx.out.size hb5)
            have hcg5 := pw_cell_below hb5 hcg
            have y2 := pw_cell_below hb5 x2
            clear hHeld hcg x0 x1 x2 hcb hb5 HBB HBx
            cases an
            · have HT2 := Aside0.mk (show (xs.take (m + 1)).foldl (topStep bi) (false, 0) = (true, x.f2) by rw [HT1.out, if_pos (.inl rfl)])
              clear HT1
              go_wp2_with fail
              go_roundw
              case measure => simp [intOf]; omega
              case rel => exact ⟨m + 1, by omega, by go_num, true, x.f2, rfl, rfl, HT2, HB5⟩
            · by_cases hq : sq < x.f2
              · have HT2 := Aside0.mk (show (xs.take (m + 1)).foldl (topStep bi) (false, 0) = (true, x.f2) by rw [HT1.out, if_pos (.inr hq)])
                clear HT1
                go_wp2_with fail
                go_roundw
                case measure => simp [intOf]; omega
                case rel => exact ⟨m + 1, by omega, by go_num, true, x.f2, rfl, rfl, HT2, HB5⟩
              · have HT2 := Aside0.mk (show (xs.take (m + 1)).foldl (topStep bi) (false, 0) = (true, sq) by rw [HT1.out, if_neg (by simpa using hq)])
                have hqd : decide (sq < x.f2) = false := decide_eq_false hq
                clear HT1
                go_wp2_with fail
                go_roundw
                case measure => simp [intOf]; omega
                case rel => exact ⟨m + 1, by omega, by go_num, true, sq, rfl, rfl, HT2, HB5⟩
          · have HO1 := Aside0.mk (decide_eq_false ho)
            have HT1 := Aside0.mk (show (xs.take (m + 1)).foldl (topStep bi) (false, 0) = (an, sq) by rw [HT.out, topStep, if_neg ho])
            clear ho HT
            go_wp2_with fail
            refine start_ (n := 12) (S := fun w' => w'.cell? ⟨g, 0, none⟩ = some (.slice (some ad) n c) ∧ w'.cell? (ad.add (m * 3)) = some (.string x.f0) ∧ w'.cell? ⟨(ad.add (m * 3)).block, (ad.add (m * 3)).off + 1, none⟩ = some (.string x.f1) ∧ w'.cell? ⟨(ad.add (m * 3)).block, (ad.add (m * 3)).off + 2, none⟩ = some (.int .u64 x.f2) ∧ w'.cell? (bd.add j) = some (.string bi)) (ds := [11]) #[false, false, false, false, false, false, false, false, false, false, false, false] (by kernel_rfl) rfl rfl ⟨hcg, x0, x1, x2, hcb⟩ (fun hHeld => ?_)
            refine pure_ (i := 0) (N := some 28) (v := ?_) (a' := ?_) #[true, false, false, false, false, false, false, false, false, false, false, false] rfl rfl (by kernel_rfl) (fun _ _ _ h => h) (Or.inl ⟨by rfl, ?_⟩) ?_ ?_
            rotate_left
            · intro w'
              go_simp
              with_reducible rfl
            rotate_left
            · simp only [Act.put, List.setIfInBounds_toArray, List.set_cons_zero, List.set_cons_succ, i64_w, i32_w]
              rfl
            refine pure_ (i := 1) (N := some 29) (v := ?_) (a' := ?_) #[true, true, false, false, false, false, false, false, false, false, false, false] rfl rfl (by kernel_rfl) (fun _ _ _ h => h) (Or.inl ⟨by rfl, ?_⟩) ?_ ?_
            rotate_left
            · intro w'
              go_simp
              with_reducible rfl
            rotate_left
            · simp only [Act.put, List.setIfInBounds_toArray, List.set_cons_zero, List.set_cons_succ, i64_w, i32_w]
              rfl
            refine pure_ (i := 2) (N := some 30) (v := ?_) (a' := ?_) #[true, true, true, false, false, false, false, false, false, false, false, false] rfl rfl (by kernel_rfl) (fun _ _ _ h => h) (Or.inl ⟨by rfl, ?_⟩) ?_ ?_
            rotate_left
            · intro w'
              go_simp
              with_reducible rfl
            rotate_left
            · simp only [Act.put, List.setIfInBounds_toArray, List.set_cons_zero, List.set_cons_succ, i64_w, i32_w]
              rfl
            refine pure_ (i := 4) (N := some 32) (v := ?_) (a' := ?_) #[true, true, true, false, true, false, false, false, false, false, false, false] rfl rfl (by kernel_rfl) (fun _ _ _ h => h) (Or.inl ⟨by rfl, ?_⟩) ?_ ?_
            rotate_left
            · intro w'
              go_simp
              with_reducible rfl
            rotate_left
            · simp only [Act.put, List.setIfInBounds_toArray, List.set_cons_zero, List.set_cons_succ, i64_w, i32_w]
              rfl
            refine pure_ (i := 7) (N := some 35) (v := ?_) (a' := ?_) #[true, true, true, false, true, false, false, true, false, false, false, false] rfl rfl (by kernel_rfl) (fun _ _ _ h => h) (Or.inl ⟨by rfl, ?_⟩) ?_ ?_
            rotate_left
            · intro w'
              go_simp
              with_reducible rfl
            rotate_left
            · simp only [Act.put, List.setIfInBounds_toArray, List.set_cons_zero, List.set_cons_succ, i64_w, i32_w]
              rfl
            refine pure_ (i := 8) (N := some 36) (v := ?_) (a' := ?_) #[true, true, true, false, true, false, false, true, true, false, false, false] rfl rfl (by kernel_rfl) (fun _ _ _ h => h) (Or.inl ⟨by rfl, ?_⟩) ?_ ?_
            rotate_left
            · intro w'
              go_simp
              with_reducible rfl
            rotate_left
            · simp only [Act.put, List.setIfInBounds_toArray, List.set_cons_zero, List.set_cons_succ, i64_w, i32_w]
              rfl
            refine pure_ (i := 9) (N := some 37) (v := ?_) (a' := ?_) #[true, true, true, false, true, false, false, true, true, true, false, false] rfl rfl (by kernel_rfl) (fun _ _ _ h => h) (Or.inl ⟨by rfl, ?_⟩) ?_ ?_
            rotate_left
            · intro w'
              go_simp
              with_reducible rfl
            rotate_left
            · simp only [Act.put, List.setIfInBounds_toArray, List.set_cons_zero, List.set_cons_succ, i64_w, i32_w]
              rfl
            refine take_ (i := 3) (N := some 31) (v := ?_) (a' := ?_) #[true, true, true, true, true, false, false, true, true, true, false, false] rfl rfl (by kernel_rfl) (fun _ _ _ h => h) (Or.inl ⟨by rfl, ?_⟩) hHeld ?_ ?_
            rotate_left
            · rintro w' ⟨s0, s1, s2, s3, s4⟩
              go_simp
              with_reducible rfl
            rotate_left
            · simp only [Act.put, List.setIfInBounds_toArray, List.set_cons_zero, List.set_cons_succ, i64_w, i32_w]
              rfl
            refine pure_ (i := 5) (N := some 33) (v := ?_) (a' := ?_) #[true, true, true, true, true, true, false, true, true, true, false, false] rfl rfl (by kernel_rfl) (fun _ _ _ h => h) (Or.inl ⟨by rfl, ?_⟩) ?_ ?_
            rotate_left
            · intro w'
              go_simp
              with_reducible rfl
            rotate_left
            · simp only [Act.put, List.setIfInBounds_toArray, List.set_cons_zero, List.set_cons_succ, i64_w, i32_w]
              rfl
            refine take_ (i := 6) (N := some 34) (v := ?_) (a' := ?_) #[true, true, true, true, true, true, true, true, true, true, false, false] rfl rfl (by kernel_rfl) (fun _ _ _ h => h) (Or.inl ⟨by rfl, ?_⟩) hHeld ?_ ?_
            rotate_left
            · rintro w' ⟨s0, s1, s2, s3, s4⟩
              go_simp
              with_reducible rfl
            rotate_left
            · simp only [Act.put, List.setIfInBounds_toArray, List.set_cons_zero, List.set_cons_succ, i64_w, i32_w]
              rfl
            refine take_ (i := 10) (N := some 38) (v := ?_) (a' := ?_) #[true, true, true, true, true, true, true, true, true, true, true, false] rfl rfl (by kernel_rfl) (fun _ _ _ h => h) (Or.inl ⟨by rfl, ?_⟩) hHeld ?_ ?_
            rotate_left
            · rintro w' ⟨s0, s1, s2, s3, s4⟩
              go_simp
              with_reducible rfl
            rotate_left
            · simp only [Act.put, List.setIfInBounds_toArray, List.set_cons_zero, List.set_cons_succ, i64_w, i32_w]
              rfl
            refine last_ (i := 11) (N := some 39) #[true, true, true, true, true, true, true, true, true, true, true, true] rfl rfl (by kernel_rfl) (by decide) (fun K hK => ?_)
            refine goes_ Try.func44 (by kernel_rfl) rfl #[.agg #[.string x.f0, .string x.f1, .int .u64 x.f2], .string bi] (by rfl) rfl rfl (by simp only [List.map_toArray, List.map_cons, List.map_nil]; rfl) ?_
            refine Calls.mono (hov.out _ x bi) ?_
            rintro e w5 ⟨rfl, hb5⟩
            refine ⟨_, rfl, ?_⟩
            refine hK.out _ _ ?_
            clear hK K
            refine norm_ (a' := ?_) ?_ ?_
            rotate_left
            · show Act.put _ (some 39) _ = _
              simp only [Act.put, List.setIfInBounds_toArray, List.set_cons_zero, List.set_cons_succ, i64_w, i32_w]
              rfl
            refine done_ (by kernel_rfl) ?_
            rw [HO1.out]
            replace hb5 := below_undrew2 hb5
            have HB5 := Aside0.mk (below_then HBx.out HBx.out.size hb5)
            clear hHeld hcg x0 x1 x2 hcb hb5 HBB HBx
            go_wp2_with fail
            go_roundw
            case measure => simp [intOf]; omega
            case rel => exact ⟨m + 1, by omega, by go_num, an, sq, rfl, rfl, HT1, HB5⟩
        · obtain rfl : m = n := by omega
          have HTp := Aside0.mk (show top xs bi = (an, sq) by rw [top, ← HFo.out, List.take_of_length_le (by rw [HN.out]; exact Nat.le_refl _)])
          have HOx := Aside0.mk (Kd.R_below HO.out HBx.out)
          have hcb := pw_cell_below HBB.out HC0.out
          have hcb1 := pw_cell_below HBB.out HC1.out
          clear HFo HO HBx HB hov
          cases an
          · have HR1 := Aside0.mk (show rl xs bs (j + 1) = out by rw [HRl.out, rstep, HBi.out, HTp.out]; rfl)
            clear hcb hcb1
            go_wp2_with fail
            go_roundw
            case measure => simp [intOf]; omega
            case rel => exact ⟨j + 1, by omega, by go_num, ⟨by rw [HR1.out]; exact HOx.out⟩, HBB⟩
          · have HR1 := Aside0.mk (show rl xs bs (j + 1) = lay2 out bi bk sq by rw [HRl.out, rstep, HBi.out, HBk.out, HTp.out]; rfl)
            clear HTp HRl HOut HN HF HNb HBi HBk HC0 HC1 HS HC HCb HB1
            have hji0 : (j : Int) < (nb : Int) := by omega
            have hj1 : (0 : Int) ≤ (j : Int) + 1 := by omega
            obtain ⟨Ao, co, eo⟩ := Kd.R_slice HOx.out
            subst eo
            rcases List.eq_nil_or_concat out with rfl | ⟨ys, z, hxs⟩
            · have HF19 : Aside0 (lay2 [] bi bk sq = [] ++ [⟨bi, bk, sq⟩]) := ⟨rfl⟩
              go_wp2_with fail
              go_quiet (fail)
              have HO19 := Aside0.mk (Kd.R_drew (Kd.R_drewN HOx.out nq))
              have HB19 := Aside0.mk (below_drew (pw_below_drewN HBB.out nq))
              replace hcb : (wr.drewN nq).cell? (bd.add j) = some (.string bi) := hcb
              replace hcb1 : (wr.drewN nq).cell? ⟨bd.block, bd.off + (j + 1), none⟩ = some (.string bk) := hcb1
              clear HOx HBB
              generalize wr.drewN nq = W2 at *
              go_wp2_with fail
              refine start_ (n := 15) (S := fun w' => w'.cell? (bd.add j) = some (.string bi) ∧ w'.cell? ⟨bd.block, bd.off + (j + 1), none⟩ = some (.string bk)) (ds := [13]) #[false, false, false, false, false, false, false, false, false, false, false, false, false, false, false] (by kernel_rfl) rfl rfl ⟨hcb, hcb1⟩ (fun hHeld => ?_)
              refine pure_ (i := 0) (N := some 101) (v := ?_) (a' := ?_) #[true, false, false, false, false, false, false, false, false, false, false, false, false, false, false] rfl rfl (by kernel_rfl) (fun _ _ _ h => h) (Or.inl ⟨by rfl, ?_⟩) ?_ ?_
              rotate_left
              · intro w'
                go_simp
                with_reducible rfl
              rotate_left
              · simp only [Act.put, List.setIfInBounds_toArray, List.set_cons_zero, List.set_cons_succ, i64_w, i32_w]
                rfl
              refine pure_ (i := 1) (N := some 102) (v := ?_) (a' := ?_) #[true, true, false, false, false, false, false, false, false, false, false, false, false, false, false] rfl rfl (by kernel_rfl) (fun _ _ _ h => h) (Or.inl ⟨by rfl, ?_⟩) ?_ ?_
              rotate_left
              · intro w'
                go_simp
                with_reducible rfl
              rotate_left
              · simp only [Act.put, List.setIfInBounds_toArray, List.set_cons_zero, List.set_cons_succ, i64_w, i32_w]
                rfl
              refine pure_ (i := 2) (N := some 103) (v := ?_) (a' := ?_) #[true, true, true, false, false, false, false, false, false, false, false, false, false, false, false] rfl rfl (by kernel_rfl) (fun _ _ _ h => h) (Or.inl ⟨by rfl, ?_⟩) ?_ ?_
              rotate_left
              · intro w'
                go_simp
                with_reducible rfl
              rotate_left
              · simp only [Act.put, List.setIfInBounds_toArray, List.set_cons_zero, List.set_cons_succ, i64_w, i32_w]
                rfl
              refine pure_ (i := 3) (N := some 104) (v := ?_) (a' := ?_) #[true, true, true, true, false, false, false, false, false, false, false, false, false, false, false] rfl rfl (by kernel_rfl) (fun _ _ _ h => h) (Or.inl ⟨by rfl, ?_⟩) ?_ ?_
              rotate_left
              · intro w'
                go_simp
                with_reducible rfl
              rotate_left
              · simp only [Act.put, List.setIfInBounds_toArray, List.set_cons_zero, List.set_cons_succ, i64_w, i32_w]
                rfl
              refine pure_ (i := 5) (N := some 106) (v := ?_) (a' := ?_) #[true, true, true, true, false, true, false, false, false, false, false, false, false, false, false] rfl rfl (by kernel_rfl) (fun _ _ _ h => h) (Or.inl ⟨by rfl, ?_⟩) ?_ ?_
              rotate_left
              · intro w'
                go_simp
                with_reducible rfl
              rotate_left
              · simp only [Act.put, List.setIfInBounds_toArray, List.set_cons_zero, List.set_cons_succ, i64_w, i32_w]
                rfl
              refine pure_ (i := 6) (N := some 107) (v := ?_) (a' := ?_) #[true, true, true, true, false, true, true, false, false, false, false, false, false, false, false] rfl rfl (by kernel_rfl) (fun _ _ _ h => h) (Or.inl ⟨by rfl, ?_⟩) ?_ ?_
              rotate_left
              · intro w'
                go_simp
                with_reducible rfl
              rotate_left
              · simp only [Act.put, List.setIfInBounds_toArray, List.set_cons_zero, List.set_cons_succ, i64_w, i32_w]
                rfl
              refine pure_ (i := 7) (N := some 108) (v := ?_) (a' := ?_) #[true, true, true, true, false, true, true, true, false, false, false, false, false, false, false] rfl rfl (by kernel_rfl) (fun _ _ _ h => h) (Or.inl ⟨by rfl, ?_⟩) ?_ ?_
              rotate_left
              · intro w'
                go_simp
                with_reducible rfl
              rotate_left
              · simp only [Act.put, List.setIfInBounds_toArray, List.set_cons_zero, List.set_cons_succ, i64_w, i32_w]
                rfl
              refine pure_ (i := 8) (N := some 109) (v := ?_) (a' := ?_) #[true, true, true, true, false, true, true, true, true, false, false, false, false, false, false] rfl rfl (by kernel_rfl) (fun _ _ _ h => h) (Or.inl ⟨by rfl, ?_⟩) ?_ ?_
              rotate_left
              · intro w'
                go_simp
                with_reducible rfl
              rotate_left
              · simp only [Act.put, List.setIfInBounds_toArray, List.set_cons_zero, List.set_cons_succ, i64_w, i32_w]
                rfl
              refine pure_ (i := 10) (N := some 111) (v := ?_) (a' := ?_) #[true, true, true, true, false, true, true, true, true, false, true, false, false, false, false] rfl rfl (by kernel_rfl) (fun _ _ _ h => h) (Or.inl ⟨by rfl, ?_⟩) ?_ ?_
              rotate_left
              · intro w'
                go_simp
                with_reducible rfl
              rotate_left
              · simp only [Act.put, List.setIfInBounds_toArray, List.set_cons_zero, List.set_cons_succ, i64_w, i32_w]
                rfl
              refine take_ (i := 4) (N := some 105) (v := ?_) (a' := ?_) #[true, true, true, true, true, true, true, true, true, false, true, false, false, false, false] rfl rfl (by kernel_rfl) (fun _ _ _ h => h) (Or.inl ⟨by rfl, ?_⟩) hHeld ?_ ?_
              rotate_left
              · rintro w' ⟨s0, s1⟩
                go_simp
                with_reducible rfl
              rotate_left
              · simp only [Act.put, List.setIfInBounds_toArray, List.set_cons_zero, List.set_cons_succ, i64_w, i32_w]
                rfl
              refine take_ (i := 9) (N := some 110) (v := ?_) (a' := ?_) #[true, true, true, true, true, true, true, true, true, true, true, false, false, false, false] rfl rfl (by kernel_rfl) (fun _ _ _ h => h) (Or.inl ⟨by rfl, ?_⟩) hHeld ?_ ?_
              rotate_left
              · rintro w' ⟨s0, s1⟩
                go_simp
                with_reducible rfl
              rotate_left
              · simp only [Act.put, List.setIfInBounds_toArray, List.set_cons_zero, List.set_cons_succ, i64_w, i32_w]
                rfl
              refine pure_ (i := 11) (N := some 112) (v := ?_) (a' := ?_) #[true, true, true, true, true, true, true, true, true, true, true, true, false, false, false] rfl rfl (by kernel_rfl) (fun _ _ _ h => h) (Or.inl ⟨by rfl, ?_⟩) ?_ ?_
              rotate_left
              · intro w'
                go_simp
                with_reducible rfl
              rotate_left
              · simp only [Act.put, List.setIfInBounds_toArray, List.set_cons_zero, List.set_cons_succ, i64_w, i32_w]
                rfl
              refine one_ (i := 12) (N := some 113) #[true, true, true, true, true, true, true, true, true, true, true, true, true, false, false] rfl rfl (by kernel_rfl) (by decide) (fun K hK => ?_)
              refine value_ (w1 := ?_) (v := ?_) (by rfl) rfl ?_ ?_
              rotate_left 2
              · go_simp
                constructor
                · rfl
                · rfl
              refine hK.out _ _ ⟨pw_cell_below (below_alloc (Below.refl _ _) _) hHeld.1, pw_cell_below (below_alloc (Below.refl _ _) _) hHeld.2⟩ (fun hHeld => ?_)
              clear hK K
              refine norm_ (a' := ?_) ?_ ?_
              rotate_left
              · show Act.put _ (some 113) _ = _
                simp only [Act.put, List.setIfInBounds_toArray, List.set_cons_zero, List.set_cons_succ, i64_w, i32_w]
                rfl
              refine last_ (i := 13) (N := some 114) #[true, true, true, true, true, true, true, true, true, true, true, true, true, true, false] rfl rfl (by kernel_rfl) (by decide) (fun K hK => ?_)
              refine Kd.R_append_step k27 w1.heap.size (by rfl) (.tmp 101) (.tmp 113) 22 27 _ 40 rfl Try.underlying22 info27 rfl (by decide) (by decide) _ [] ⟨bi, bk, sq⟩ [.string bi, .string bk, .int .u64 sq] (fun _ => True) (fun _ => False) rfl rfl (k27_mkM _ _ _ ⟨bi, bk, sq⟩) (fun _ h => h.elim) (fun _ _ => trivial) HO19.out HB19.out HB19.out.size (by first | (have := HOl.out; omega) | (have := HOl.out; rw [HNn.out]; omega)) ?_
              intro v3 w3 hR3 hB3 hg3 hat3
              refine hK.out _ _ ?_
              clear hK K
              refine norm_ (a' := ?_) ?_ ?_
              rotate_left
              · show Act.put _ (some 114) _ = _
                simp only [Act.put, List.setIfInBounds_toArray, List.set_cons_zero, List.set_cons_succ, i64_w, i32_w]
                rfl
              refine pure_ (i := 14) (N := some 4) (v := ?_) (a' := ?_) #[true, true, true, true, true, true, true, true, true, true, true, true, true, true, true] rfl rfl (by kernel_rfl) (fun _ _ _ h => h) (Or.inl ⟨by rfl, ?_⟩) ?_ ?_
              rotate_left
              · intro w'
                go_simp
                with_reducible rfl
              rotate_left
              · simp only [Act.put, List.setIfInBounds_toArray, List.set_cons_zero, List.set_cons_succ, i64_w, i32_w]
                rfl
              refine done_ (by kernel_rfl) ?_
              clear hHeld hg3 hat3
              have HR3 := Aside0.mk hR3
              have HB3 := Aside0.mk hB3
              clear hR3 hB3 hcb hcb1
              go_wp2_with fail
              go_roundw
              case measure => simp [intOf]; omega
              case rel => exact ⟨j + 1, by omega, by go_num, ⟨by rw [HR1.out, HF19.out]; exact HR3.out⟩, HB3⟩
            · rw [List.concat_eq_append] at hxs
              subst hxs
              have hR := HOx.out
              obtain ⟨go, cap, eo, hbg, hgl, cells, hcells⟩ := Kd.R_form hR (by simp)
              injection eo with q1 q2 q3
              subst q1
              subst q3
              clear q2
              obtain ⟨N, hn⟩ : ∃ N, (ys ++ [z]).length = N := ⟨_, rfl⟩
              have hn0 : 0 < N := by rw [← hn]; simp
              have hzz : (ys ++ [z]).getD (((N : Int) - 1).toNat) z27 = z := by
                have : ((N : Int) - 1).toNat = ys.length := by rw [← hn]; simp
                rw [this]; simp
              rw [hn] at hR HOx HOl ⊢
              obtain ⟨cc, hcl, hM, hcc, hfr⟩ := Kd.R_elem hR z27 ((N : Int) - 1) (by omega) (by omega)
              rw [hzz] at hM
              obtain rfl := k27_openM hM
              have e1 : ((N : Int) - 1).toNat = N - 1 := by omega
              have Hcc0 := Aside0.mk hcc
              have Hcl := Aside0.mk hcl
              rw [e1] at hcc hfr
              have hz1 : wr.cell? ⟨go, (N - 1) * 3 + 1, none⟩ = some (.string z.f1) := hcc 1 _ rfl
              have hz2 : wr.cell? ⟨go, (N - 1) * 3 + 2, none⟩ = some (.int .u64 z.f2) := hcc 2 _ rfl
              have hf1 : wr.frozen? ⟨go, (N - 1) * 3 + 1, none⟩ = false := hfr 1
              have hN1 : wrap64 ((N : Int) - 1) = (N : Int) - 1 := by have := HOl.out; unfold wrap64; omega
              have hN3 : (0 : Int) ≤ (N : Int) - 1 := by omega
              have hN4 : (N : Int) - 1 < (N : Int) := by omega
              have hN5 : (0 : Int) < (N : Int) := by omega
              have HGo := Aside0.mk hbg
              have HNn := Aside0.mk hn
              clear hR hcells hM hcc hfr hzz hn hbg hgl hcl
              by_cases hm1 : z.f1 = bi
              · have hm1b : (z.f1.toList == bi.toList) = true := eq_true.mpr hm1
                by_cases hm2 : z.f2 = sq
                · have hm2b : (z.f2 == sq) = true := by simpa using hm2
                  have HF18 : Aside0 (lay2 (ys ++ [z]) bi bk sq = (ys ++ [z]).set ((N : Int) - 1).toNat ⟨z.f0, bk, z.f2⟩) := ⟨by
                    have e2 : ((N : Int) - 1).toNat = ys.length := by rw [← HNn.out]; simp
                    rw [e2]
                    simp [lay2, hm1, hm2]⟩
                  clear hm1 hm2
                  go_wp2_with fail
                  go_quiet (fail)
                  go_wp2_with fail
                  clear hz1 hz2 hf1 hm1b hm2b hcb hcb1 hN1 hcg
                  obtain ⟨hR1, hg1⟩ := Kd.R_seg (c := [.string z.f0, .string z.f1, .int .u64 z.f2]) (seg := [.string bk]) (j := 1) (x' := ⟨z.f0, bk, z.f2⟩) (okp := fun _ => False) (Kd.R_drewN HOx.out nq) ((N : Int) - 1) hN3 hN4 Hcl.out Hcc0.out (by show 1 + 1 ≤ 3; omega) (k27_mkM _ _ _ ⟨z.f0, bk, z.f2⟩) (fun _ h => h.elim)
                  rw [show ((N : Int) - 1).toNat * k27.sz + 1 = (N - 1) * 3 + 1 from by show ((N : Int) - 1).toNat * 3 + 1 = _; rw [e1]] at hR1 hg1
                  have e3 : ∀ W : World, W.setCells go ((N - 1) * 3 + 1) [.string bk] = W.setCell ⟨go, (N - 1) * 3 + 1, none⟩ (.string bk) := fun _ => rfl
                  rw [e3] at hR1 hg1
                  have HR3 := Aside0.mk hR1
                  have HB3 := Aside0.mk ((pw_below_drewN HBB.out nq).setCell (p := ⟨go, (N - 1) * 3 + 1, none⟩) HGo.out (.string bk))
                  clear hR1 hg1 e3
                  go_roundw
                  case measure => simp [intOf]; omega
                  case rel => exact ⟨j + 1, by omega, by go_num, ⟨by rw [HR1.out, HF18.out]; exact HR3.out⟩, HB3⟩
                · have hm2b : (z.f2 == sq) = false := by simpa using hm2
                  have HF19 : Aside0 (lay2 (ys ++ [z]) bi bk sq = (ys ++ [z]) ++ [⟨bi, bk, sq⟩]) := ⟨by simp [lay2, hm2]⟩
                  clear hm1 hm2
                  go_wp2_with fail
                  go_quiet (fail)
                  clear hz1 hz2 hf1 hm1b hm2b Hcc0 Hcl hN1 hN3 hN4 hN5 e1
                  have HO19 := Aside0.mk (Kd.R_drew (Kd.R_drewN HOx.out nq))
                  have HB19 := Aside0.mk (below_drew (pw_below_drewN HBB.out nq))
                  replace hcb : (wr.drewN nq).cell? (bd.add j) = some (.string bi) := hcb
                  replace hcb1 : (wr.drewN nq).cell? ⟨bd.block, bd.off + (j + 1), none⟩ = some (.string bk) := hcb1
                  clear HOx HBB
                  generalize wr.drewN nq = W2 at *
                  go_wp2_with fail
                  refine start_ (n := 15) (S := fun w' => w'.cell? (bd.add j) = some (.string bi) ∧ w'.cell? ⟨bd.block, bd.off + (j + 1), none⟩ = some (.string bk)) (ds := [13]) #[false, false, false, false, false, false, false, false, false, false, false, false, false, false, false] (by kernel_rfl) rfl rfl ⟨hcb, hcb1⟩ (fun hHeld => ?_)
                  refine pure_ (i := 0) (N := some 101) (v := ?_) (a' := ?_) #[true, false, false, false, false, false, false, false, false, false, false, false, false, false, false] rfl rfl (by kernel_rfl) (fun _ _ _ h => h) (Or.inl ⟨by rfl, ?_⟩) ?_ ?_
                  rotate_left
                  · intro w'
                    go_simp
                    with_reducible rfl
                  rotate_left
                  · simp only [Act.put, List.setIfInBounds_toArray, List.set_cons_zero, List.set_cons_succ, i64_w, i32_w]
                    rfl
                  refine pure_ (i := 1) (N := some 102) (v := ?_) (a' := ?_) #[true, true, false, false, false, false, false, false, false, false, false, false, false, false, false] rfl rfl (by kernel_rfl) (fun _ _ _ h => h) (Or.inl ⟨by rfl, ?_⟩) ?_ ?_
                  rotate_left
                  · intro w'
                    go_simp
                    with_reducible rfl
                  rotate_left
                  · simp only [Act.put, List.setIfInBounds_toArray, List.set_cons_zero, List.set_cons_succ, i64_w, i32_w]
                    rfl
                  refine pure_ (i := 2) (N := some 103) (v := ?_) (a' := ?_) #[true, true, true, false, false, false, false, false, false, false, false, false, false, false, false] rfl rfl (by kernel_rfl) (fun _ _ _ h => h) (Or.inl ⟨by rfl, ?_⟩) ?_ ?_
                  rotate_left
                  · intro w'
                    go_simp
                    with_reducible rfl
                  rotate_left
                  · simp only [Act.put, List.setIfInBounds_toArray, List.set_cons_zero, List.set_cons_succ, i64_w, i32_w]
                    rfl
                  refine pure_ (i := 3) (N := some 104) (v := ?_) (a' := ?_) #[true, true, true, true, false, false, false, false, false, false, false, false, false, false, false] rfl rfl (by kernel_rfl) (fun _ _ _ h => h) (Or.inl ⟨by rfl, ?_⟩) ?_ ?_
                  rotate_left
                  · intro w'
                    go_simp
                    with_reducible rfl
                  rotate_left
                  · simp only [Act.put, List.setIfInBounds_toArray, List.set_cons_zero, List.set_cons_succ, i64_w, i32_w]
                    rfl
                  refine pure_ (i := 5) (N := some 106) (v := ?_) (a' := ?_) #[true, true, true, true, false, true, false, false, false, false, false, false, false, false, false] rfl rfl (by kernel_rfl) (fun _ _ _ h => h) (Or.inl ⟨by rfl, ?_⟩) ?_ ?_
                  rotate_left
                  · intro w'
                    go_simp
                    with_reducible rfl
                  rotate_left
                  · simp only [Act.put, List.setIfInBounds_toArray, List.set_cons_zero, List.set_cons_succ, i64_w, i32_w]
                    rfl
                  refine pure_ (i := 6) (N := some 107) (v := ?_) (a' := ?_) #[true, true, true, true, false, true, true, false, false, false, false, false, false, false, false] rfl rfl (by kernel_rfl) (fun _ _ _ h => h) (Or.inl ⟨by rfl, ?_⟩) ?_ ?_
                  rotate_left
                  · intro w'
                    go_simp
                    with_reducible rfl
                  rotate_left
                  · simp only [Act.put, List.setIfInBounds_toArray, List.set_cons_zero, List.set_cons_succ, i64_w, i32_w]
                    rfl
                  refine pure_ (i := 7) (N := some 108) (v := ?_) (a' := ?_) #[true, true, true, true, false, true, true, true, false, false, false, false, false, false, false] rfl rfl (by kernel_rfl) (fun _ _ _ h => h) (Or.inl ⟨by rfl, ?_⟩) ?_ ?_
                  rotate_left
                  · intro w'
                    go_simp
                    with_reducible rfl
                  rotate_left
                  · simp only [Act.put, List.setIfInBounds_toArray, List.set_cons_zero, List.set_cons_succ, i64_w, i32_w]
                    rfl
                  refine pure_ (i := 8) (N := some 109) (v := ?_) (a' := ?_) #[true, true, true, true, false, true, true, true, true, false, false, false, false, false, false] rfl rfl (by kernel_rfl) (fun _ _ _ h => h) (Or.inl ⟨by rfl, ?_⟩) ?_ ?_
                  rotate_left
                  · intro w'
                    go_simp
                    with_reducible rfl
                  rotate_left
                  · simp only [Act.put, List.setIfInBounds_toArray, List.set_cons_zero, List.set_cons_succ, i64_w, i32_w]
                    rfl
                  refine pure_ (i := 10) (N := some 111) (v := ?_) (a' := ?_) #[true, true, true, true, false, true, true, true, true, false, true, false, false, false, false] rfl rfl (by kernel_rfl) (fun _ _ _ h => h) (Or.inl ⟨by rfl, ?_⟩) ?_ ?_
                  rotate_left
                  · intro w'
                    go_simp
                    with_reducible rfl
                  rotate_left
                  · simp only [Act.put, List.setIfInBounds_toArray, List.set_cons_zero, List.set_cons_succ, i64_w, i32_w]
                    rfl
                  refine take_ (i := 4) (N := some 105) (v := ?_) (a' := ?_) #[true, true, true, true, true, true, true, true, true, false, true, false, false, false, false] rfl rfl (by kernel_rfl) (fun _ _ _ h => h) (Or.inl ⟨by rfl, ?_⟩) hHeld ?_ ?_
                  rotate_left
                  · rintro w' ⟨s0, s1⟩
                    go_simp
                    with_reducible rfl
                  rotate_left
                  · simp only [Act.put, List.setIfInBounds_toArray, List.set_cons_zero, List.set_cons_succ, i64_w, i32_w]
                    rfl
                  refine take_ (i := 9) (N := some 110) (v := ?_) (a' := ?_) #[true, true, true, true, true, true, true, true, true, true, true, false, false, false, false] rfl rfl (by kernel_rfl) (fun _ _ _ h => h) (Or.inl ⟨by rfl, ?_⟩) hHeld ?_ ?_
                  rotate_left
                  · rintro w' ⟨s0, s1⟩
                    go_simp
                    with_reducible rfl
                  rotate_left
                  · simp only [Act.put, List.setIfInBounds_toArray, List.set_cons_zero, List.set_cons_succ, i64_w, i32_w]
                    rfl
                  refine pure_ (i := 11) (N := some 112) (v := ?_) (a' := ?_) #[true, true, true, true, true, true, true, true, true, true, true, true, false, false, false] rfl rfl (by kernel_rfl) (fun _ _ _ h => h) (Or.inl ⟨by rfl, ?_⟩) ?_ ?_
                  rotate_left
                  · intro w'
                    go_simp
                    with_reducible rfl
                  rotate_left
                  · simp only [Act.put, List.setIfInBounds_toArray, List.set_cons_zero, List.set_cons_succ, i64_w, i32_w]
                    rfl
                  refine one_ (i := 12) (N := some 113) #[true, true, true, true, true, true, true, true, true, true, true, true, true, false, false] rfl rfl (by kernel_rfl) (by decide) (fun K hK => ?_)
                  refine value_ (w1 := ?_) (v := ?_) (by rfl) rfl ?_ ?_
                  rotate_left 2
                  · go_simp
                    constructor
                    · rfl
                    · rfl
                  refine hK.out _ _ ⟨pw_cell_below (below_alloc (Below.refl _ _) _) hHeld.1, pw_cell_below (below_alloc (Below.refl _ _) _) hHeld.2⟩ (fun hHeld => ?_)
                  clear hK K
                  refine norm_ (a' := ?_) ?_ ?_
                  rotate_left
                  · show Act.put _ (some 113) _ = _
                    simp only [Act.put, List.setIfInBounds_toArray, List.set_cons_zero, List.set_cons_succ, i64_w, i32_w]
                    rfl
                  refine last_ (i := 13) (N := some 114) #[true, true, true, true, true, true, true, true, true, true, true, true, true, true, false] rfl rfl (by kernel_rfl) (by decide) (fun K hK => ?_)
                  refine Kd.R_append_step k27 w1.heap.size (by rfl) (.tmp 101) (.tmp 113) 22 27 _ 40 rfl Try.underlying22 info27 rfl (by decide) (by decide) _ (ys ++ [z]) ⟨bi, bk, sq⟩ [.string bi, .string bk, .int .u64 sq] (fun _ => True) (fun _ => False) rfl rfl (k27_mkM _ _ _ ⟨bi, bk, sq⟩) (fun _ h => h.elim) (fun _ _ => trivial) HO19.out HB19.out HB19.out.size (by first | (have := HOl.out; omega) | (have := HOl.out; rw [HNn.out]; omega)) ?_
                  intro v3 w3 hR3 hB3 hg3 hat3
                  refine hK.out _ _ ?_
                  clear hK K
                  refine norm_ (a' := ?_) ?_ ?_
                  rotate_left
                  · show Act.put _ (some 114) _ = _
                    simp only [Act.put, List.setIfInBounds_toArray, List.set_cons_zero, List.set_cons_succ, i64_w, i32_w]
                    rfl
                  refine pure_ (i := 14) (N := some 4) (v := ?_) (a' := ?_) #[true, true, true, true, true, true, true, true, true, true, true, true, true, true, true] rfl rfl (by kernel_rfl) (fun _ _ _ h => h) (Or.inl ⟨by rfl, ?_⟩) ?_ ?_
                  rotate_left
                  · intro w'
                    go_simp
                    with_reducible rfl
                  rotate_left
                  · simp only [Act.put, List.setIfInBounds_toArray, List.set_cons_zero, List.set_cons_succ, i64_w, i32_w]
                    rfl
                  refine done_ (by kernel_rfl) ?_
                  clear hHeld hg3 hat3
                  have HR3 := Aside0.mk hR3
                  have HB3 := Aside0.mk hB3
                  clear hR3 hB3 hcb hcb1
                  go_wp2_with fail
                  go_roundw
                  case measure => simp [intOf]; omega
                  case rel => exact ⟨j + 1, by omega, by go_num, ⟨by rw [HR1.out, HF19.out]; exact HR3.out⟩, HB3⟩
              · have hm1b : (z.f1.toList == bi.toList) = false := by rw [← Bool.not_eq_true, eq_true]; exact hm1
                have HF19 : Aside0 (lay2 (ys ++ [z]) bi bk sq = (ys ++ [z]) ++ [⟨bi, bk, sq⟩]) := ⟨by simp [lay2, hm1]⟩
                clear hm1
                go_wp2_with fail
                go_quiet (fail)
                clear hz1 hz2 hf1 hm1b Hcc0 Hcl hN1 hN3 hN4 hN5 e1
                have HO19 := Aside0.mk (Kd.R_drew (Kd.R_drewN HOx.out nq))
                have HB19 := Aside0.mk (below_drew (pw_below_drewN HBB.out nq))
                replace hcb : (wr.drewN nq).cell? (bd.add j) = some (.string bi) := hcb
                replace hcb1 : (wr.drewN nq).cell? ⟨bd.block, bd.off + (j + 1), none⟩ = some (.string bk) := hcb1
                clear HOx HBB
                generalize wr.drewN nq = W2 at *
                go_wp2_with fail
                refine start_ (n := 15) (S := fun w' => w'.cell? (bd.add j) = some (.string bi) ∧ w'.cell? ⟨bd.block, bd.off + (j + 1), none⟩ = some (.string bk)) (ds := [13]) #[false, false, false, false, false, false, false, false, false, false, false, false, false, false, false] (by kernel_rfl) rfl rfl ⟨hcb, hcb1⟩ (fun hHeld => ?_)
                refine pure_ (i := 0) (N := some 101) (v := ?_) (a' := ?_) #[true, false, false, false, false, false, false, false, false, false, false, false, false, false, false] rfl rfl (by kernel_rfl) (fun _ _ _ h => h) (Or.inl ⟨by rfl, ?_⟩) ?_ ?_
                rotate_left
                · intro w'
                  go_simp
                  with_reducible rfl
                rotate_left
                · simp only [Act.put, List.setIfInBounds_toArray, List.set_cons_zero, List.set_cons_succ, i64_w, i32_w]
                  rfl
                refine pure_ (i := 1) (N := some 102) (v := ?_) (a' := ?_) #[true, true, false, false, false, false, false, false, false, false, false, false, false, false, false] rfl rfl (by kernel_rfl) (fun _ _ _ h => h) (Or.inl ⟨by rfl, ?_⟩) ?_ ?_
                rotate_left
                · intro w'
                  go_simp
                  with_reducible rfl
                rotate_left
                · simp only [Act.put, List.setIfInBounds_toArray, List.set_cons_zero, List.set_cons_succ, i64_w, i32_w]
                  rfl
                refine pure_ (i := 2) (N := some 103) (v := ?_) (a' := ?_) #[true, true, true, false, false, false, false, false, false, false, false, false, false, false, false] rfl rfl (by kernel_rfl) (fun _ _ _ h => h) (Or.inl ⟨by rfl, ?_⟩) ?_ ?_
                rotate_left
                · intro w'
                  go_simp
                  with_reducible rfl
                rotate_left
                · simp only [Act.put, List.setIfInBounds_toArray, List.set_cons_zero, List.set_cons_succ, i64_w, i32_w]
                  rfl
                refine pure_ (i := 3) (N := some 104) (v := ?_) (a' := ?_) #[true, true, true, true, false, false, false, false, false, false, false, false, false, false, false] rfl rfl (by kernel_rfl) (fun _ _ _ h => h) (Or.inl ⟨by rfl, ?_⟩) ?_ ?_
                rotate_left
                · intro w'
                  go_simp
                  with_reducible rfl
                rotate_left
                · simp only [Act.put, List.setIfInBounds_toArray, List.set_cons_zero, List.set_cons_succ, i64_w, i32_w]
                  rfl
                refine pure_ (i := 5) (N := some 106) (v := ?_) (a' := ?_) #[true, true, true, true, false, true, false, false, false, false, false, false, false, false, false] rfl rfl (by kernel_rfl) (fun _ _ _ h => h) (Or.inl ⟨by rfl, ?_⟩) ?_ ?_
                rotate_left
                · intro w'
                  go_simp
                  with_reducible rfl
                rotate_left
                · simp only [Act.put, List.setIfInBounds_toArray, List.set_cons_zero, List.set_cons_succ, i64_w, i32_w]
                  rfl
                refine pure_ (i := 6) (N := some 107) (v := ?_) (a' := ?_) #[true, true, true, true, false, true, true, false, false, false, false, false, false, false, false] rfl rfl (by kernel_rfl) (fun _ _ _ h => h) (Or.inl ⟨by rfl, ?_⟩) ?_ ?_
                rotate_left
                · intro w'
                  go_simp
                  with_reducible rfl
                rotate_left
                · simp only [Act.put, List.setIfInBounds_toArray, List.set_cons_zero, List.set_cons_succ, i64_w, i32_w]
                  rfl
                refine pure_ (i := 7) (N := some 108) (v := ?_) (a' := ?_) #[true, true, true, true, false, true, true, true, false, false, false, false, false, false, false] rfl rfl (by kernel_rfl) (fun _ _ _ h => h) (Or.inl ⟨by rfl, ?_⟩) ?_ ?_
                rotate_left
                · intro w'
                  go_simp
                  with_reducible rfl
                rotate_left
                · simp only [Act.put, List.setIfInBounds_toArray, List.set_cons_zero, List.set_cons_succ, i64_w, i32_w]
                  rfl
                refine pure_ (i := 8) (N := some 109) (v := ?_) (a' := ?_) #[true, true, true, true, false, true, true, true, true, false, false, false, false, false, false] rfl rfl (by kernel_rfl) (fun _ _ _ h => h) (Or.inl ⟨by rfl, ?_⟩) ?_ ?_
                rotate_left
                · intro w'
                  go_simp
                  with_reducible rfl
                rotate_left
                · simp only [Act.put, List.setIfInBounds_toArray, List.set_cons_zero, List.set_cons_succ, i64_w, i32_w]
                  rfl
                refine pure_ (i := 10) (N := some 111) (v := ?_) (a' := ?_) #[true, true, true, true, false, true, true, true, true, false, true, false, false, false, false] rfl rfl (by kernel_rfl) (fun _ _ _ h => h) (Or.inl ⟨by rfl, ?_⟩) ?_ ?_
                rotate_left
                · intro w'
                  go_simp
                  with_reducible rfl
                rotate_left
                · simp only [Act.put, List.setIfInBounds_toArray, List.set_cons_zero, List.set_cons_succ, i64_w, i32_w]
                  rfl
                refine take_ (i := 4) (N := some 105) (v := ?_) (a' := ?_) #[true, true, true, true, true, true, true, true, true, false, true, false, false, false, false] rfl rfl (by kernel_rfl) (fun _ _ _ h => h) (Or.inl ⟨by rfl, ?_⟩) hHeld ?_ ?_
                rotate_left
                · rintro w' ⟨s0, s1⟩
                  go_simp
                  with_reducible rfl
                rotate_left
                · simp only [Act.put, List.setIfInBounds_toArray, List.set_cons_zero, List.set_cons_succ, i64_w, i32_w]
                  rfl
                refine take_ (i := 9) (N := some 110) (v := ?_) (a' := ?_) #[true, true, true, true, true, true, true, true, true, true, true, false, false, false, false] rfl rfl (by kernel_rfl) (fun _ _ _ h => h) (Or.inl ⟨by rfl, ?_⟩) hHeld ?_ ?_
                rotate_left
                · rintro w' ⟨s0, s1⟩
                  go_simp
                  with_reducible rfl
                rotate_left
                · simp only [Act.put, List.setIfInBounds_toArray, List.set_cons_zero, List.set_cons_succ, i64_w, i32_w]
                  rfl
                refine pure_ (i := 11) (N := some 112) (v := ?_) (a' := ?_) #[true, true, true, true, true, true, true, true, true, true, true, true, false, false, false] rfl rfl (by kernel_rfl) (fun _ _ _ h => h) (Or.inl ⟨by rfl, ?_⟩) ?_ ?_
                rotate_left
                · intro w'
                  go_simp
                  with_reducible rfl
                rotate_left
                · simp only [Act.put, List.setIfInBounds_toArray, List.set_cons_zero, List.set_cons_succ, i64_w, i32_w]
                  rfl
                refine one_ (i := 12) (N := some 113) #[true, true, true, true, true, true, true, true, true, true, true, true, true, false, false] rfl rfl (by kernel_rfl) (by decide) (fun K hK => ?_)
                refine value_ (w1 := ?_) (v := ?_) (by rfl) rfl ?_ ?_
                rotate_left 2
                · go_simp
                  constructor
                  · rfl
                  · rfl
                refine hK.out _ _ ⟨pw_cell_below (below_alloc (Below.refl _ _) _) hHeld.1, pw_cell_below (below_alloc (Below.refl _ _) _) hHeld.2⟩ (fun hHeld => ?_)
                clear hK K
                refine norm_ (a' := ?_) ?_ ?_
                rotate_left
                · show Act.put _ (some 113) _ = _
                  simp only [Act.put, List.setIfInBounds_toArray, List.set_cons_zero, List.set_cons_succ, i64_w, i32_w]
                  rfl
                refine last_ (i := 13) (N := some 114) #[true, true, true, true, true, true, true, true, true, true, true, true, true, true, false] rfl rfl (by kernel_rfl) (by decide) (fun K hK => ?_)
                refine Kd.R_append_step k27 w1.heap.size (by rfl) (.tmp 101) (.tmp 113) 22 27 _ 40 rfl Try.underlying22 info27 rfl (by decide) (by decide) _ (ys ++ [z]) ⟨bi, bk, sq⟩ [.string bi, .string bk, .int .u64 sq] (fun _ => True) (fun _ => False) rfl rfl (k27_mkM _ _ _ ⟨bi, bk, sq⟩) (fun _ h => h.elim) (fun _ _ => trivial) HO19.out HB19.out HB19.out.size (by first | (have := HOl.out; omega) | (have := HOl.out; rw [HNn.out]; omega)) ?_
                intro v3 w3 hR3 hB3 hg3 hat3
                refine hK.out _ _ ?_
                clear hK K
                refine norm_ (a' := ?_) ?_ ?_
                rotate_left
                · show Act.put _ (some 114) _ = _
                  simp only [Act.put, List.setIfInBounds_toArray, List.set_cons_zero, List.set_cons_succ, i64_w, i32_w]
                  rfl
                refine pure_ (i := 14) (N := some 4) (v := ?_) (a' := ?_) #[true, true, true, true, true, true, true, true, true, true, true, true, true, true, true] rfl rfl (by kernel_rfl) (fun _ _ _ h => h) (Or.inl ⟨by rfl, ?_⟩) ?_ ?_
                rotate_left
                · intro w'
                  go_simp
                  with_reducible rfl
                rotate_left
                · simp only [Act.put, List.setIfInBounds_toArray, List.set_cons_zero, List.set_cons_succ, i64_w, i32_w]
                  rfl
                refine done_ (by kernel_rfl) ?_
                clear hHeld hg3 hat3
                have HR3 := Aside0.mk hR3
                have HB3 := Aside0.mk hB3
                clear hR3 hB3 hcb hcb1
                go_wp2_with fail
                go_roundw
                case measure => simp [intOf]; omega
                case rel => exact ⟨j + 1, by omega, by go_num, ⟨by rw [HR1.out, HF19.out]; exact HR3.out⟩, HB3⟩
    · obtain rfl : j = nb - 1 := by omega
      have hcond : decide (((nb - 1 : Nat) : Int) + 1 < (nb : Int)) = false := decide_eq_false (by omega)
      have hw : wrap64 (((nb - 1 : Nat) : Int) + 1) = ((nb - 1 : Nat) : Int) + 1 := by unfold wrap64; omega
      have HB9 := Aside0.mk (below_then HB1.out HB1.out.size HB.out)
      have HO9 := Aside0.mk (Kd.R_lower HO.out HB1.out.size)
      have HFF := Aside0.mk (show out = refList xs by rw [HF.out, HOut.out])
      go_wp2_with fail
      go_ret
      exact ⟨_, rfl, by rw [← HFF.out]; exact HO9.out, HB9.out⟩
end Go.Proofs.Ytpfkfnphjbgohaa.El
