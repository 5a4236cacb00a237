/-
  The reference's bounds: all Lo and Hi, rising, each once.
-/
import Derived.Test.YtpfkfnphjbgohaaElRAdd
import Derived.Test.YtpfkfnphjbgohaaPEax5
set_option linter.unusedVariables false
set_option linter.unusedSimpArgs false
namespace Go.Proofs.Ytpfkfnphjbgohaa.El
open Go.RowKit Go.Proofs.YtpfkfnphjbgohaaW.PrintWords Go.Proofs.YtpfkfnphjbgohaaW.PrintLast Go.Proofs.YtpfkfnphjbgohaaW.PrintMore Go.Proofs.Ytpfkfnphjbgohaa.PEa
attribute [local go_sem] binS_leq binS_gtr binS_geq max2_int min2_int max_two min_two maxS_two minS_two
def ins : List ByteArray → ByteArray → List ByteArray
  | [], x => [x]
  | y :: l, x => if y < x then y :: ins l x else if y = x then y :: l else x :: y :: l
theorem ins_len (l : List ByteArray) (x : ByteArray) : (ins l x).length ≤ l.length + 1 := by
  induction l with
  | nil => simp [ins]
  | cons y l ih =>
    rw [ins]
    by_cases h : y < x
    · rw [if_pos h]; simp only [List.length_cons]; omega
    · rw [if_neg h]
      by_cases h2 : y = x
      · rw [if_pos h2]; simp
      · rw [if_neg h2]; simp
theorem lay_l0 (l : List ByteArray) (x : ByteArray) (hl : l.length ≤ 1000000) : ∀ k i : Nat, i ≤ l.length → l.length - i < k → flintref12_lay.l0 k l x (i : Int) = some (l.take i ++ ins (l.drop i) x) := by
  intro k
  induction k with
  | zero => intro i _ h; exact absurd h (Nat.not_lt_zero _)
  | succ k ih =>
    intro i hi hk
    rw [flintref12_lay.l0]
    have tail : ∀ (a : List ByteArray), ins (l.drop i) x = x :: l.drop i → (l.take (i : Int).toNat).length ≤ 1000000 → (l.drop (i : Int).toNat).length ≤ 1000000 → l.take (i : Int).toNat ++ [x] ++ l.drop (i : Int).toNat = l.take i ++ ins (l.drop i) x := by
      intro _ h _ _
      rw [h, Int.toNat_natCast]
      simp
    have b1 : (l.take (i : Int).toNat).length ≤ 1000000 := by rw [List.length_take]; omega
    have b2 : (l.drop (i : Int).toNat).length ≤ 1000000 := by rw [List.length_drop]; omega
    have q1 : ([] ++ l.take (i : Int).toNat ++ [x] : List ByteArray).length ≤ 1000001 := by
      rw [List.length_append, List.length_append]; simp only [List.length_nil, List.length_singleton]; omega
    by_cases c : (i : Int) < (l.length : Int)
    · have hil : i < l.length := by omega
      have hd : l.drop i = rdOf ByteArray.empty l (i : Int) :: l.drop (i + 1) := by
        rw [List.drop_eq_getElem_cons hil]
        congr 1
        unfold rdOf
        simp [hil]
      rw [if_pos c, if_pos (by omega : (0 : Int) ≤ i)]
      generalize rdOf ByteArray.empty l (i : Int) = y at hd
      by_cases c2 : y < x
      · rw [if_pos (less_true.mpr c2)]
        have e : wrap64 ((i : Int) + 1) = ((i + 1 : Nat) : Int) := by unfold wrap64; omega
        rw [e, ih (i + 1) (by omega) (by omega), hd, ins, if_pos c2]
        have ht : l.take (i + 1) = l.take i ++ [y] := by
          have h1 : l.take (i + 1) = l.take i ++ (l.drop i).take 1 := by rw [List.take_add]
          rw [h1, hd]; rfl
        rw [ht]
        simp
      · rw [if_neg (fun h => c2 (less_true.mp h))]
        by_cases c3 : y = x
        · rw [if_pos (by rw [c3]), hd, ins, if_neg c2, if_pos c3, ← hd, List.take_append_drop]
        · have hi2 : ins (l.drop i) x = x :: l.drop i := by rw [hd, ins, if_neg c2, if_neg c3]
          rw [if_neg (fun h => c3 (toList_inj.mp h)), Option.bind_some, if_pos (by omega : (i : Int) ≤ (l.length : Int)), Option.bind_some, if_pos (by simp only [List.length_nil]; omega), Option.bind_some, if_pos (by rw [List.length_append]; simp only [List.length_nil]; omega), Option.bind_some, Option.bind_some, if_pos (by omega), List.nil_append, tail [] hi2 b1 b2]
    · have hil : i = l.length := by omega
      have hi2 : ins (l.drop i) x = x :: l.drop i := by rw [hil, List.drop_length]; rfl
      rw [if_neg c, Option.bind_some, if_pos (by omega : (0 : Int) ≤ i), if_pos (by omega : (i : Int) ≤ (l.length : Int)), Option.bind_some, if_pos (by simp only [List.length_nil]; omega), Option.bind_some, if_pos (by rw [List.length_append]; simp only [List.length_nil]; omega), Option.bind_some, Option.bind_some, if_pos (by omega), List.nil_append, tail [] hi2 b1 b2]
theorem lay_some (l : List ByteArray) (x : ByteArray) (hl : l.length ≤ 1000000) : flintref12_lay.f (l.length + 1) l x = some (ins l x) := by
  have h := lay_l0 l x hl (l.length + 1) 0 (Nat.zero_le _) (by omega)
  rw [List.take_zero, List.drop_zero, List.nil_append] at h
  exact h
def bnd1 (b : List ByteArray) (e : S27) : List ByteArray := ins (ins b e.f0) e.f1
def bnds (L : List S27) : List ByteArray := L.foldl bnd1 []
theorem bnds_len_aux (L : List S27) : ∀ b, (L.foldl bnd1 b).length ≤ b.length + 2 * L.length := by
  induction L with
  | nil => intro b; simp
  | cons e L ih =>
    intro b
    have h1 := ih (bnd1 b e)
    have h2 := ins_len (ins b e.f0) e.f1
    have h3 := ins_len b e.f0
    rw [List.foldl_cons, List.length_cons]
    unfold bnd1 at h1 ⊢
    omega
theorem bnds_len (L : List S27) : (bnds L).length ≤ 2 * L.length := by have := bnds_len_aux L []; simpa [bnds] using this
theorem bnds_take {L : List S27} {k : Nat} (h : k < L.length) : bnds (L.take (k + 1)) = ins (ins (bnds (L.take k)) (rd_T27 L (k : Int)).f0) (rd_T27 L (k : Int)).f1 := by
  have e : L.take (k + 1) = L.take k ++ [rd_T27 L (k : Int)] := by
    rw [List.take_add, List.drop_eq_getElem_cons h]
    congr 1
    rw [show rd_T27 L (k : Int) = L[k] by simp [rd_T27, rdOf, h]]
    rfl
  rw [e, bnds, List.foldl_append]
  rfl
def BndQ (w : World) (xs : List S27) (r : Ending) (w' : World) : Prop := ∃ v', r = .returned v' ∧ Kd.R Kd.string 9 w' w.heap.size (fun _ => True) v' (bnds xs) ∧ Below w.heap.size w w'
set_option maxHeartbeats 4000000 in
set_option maxRecDepth 100000 in
theorem bounds43 (w : World) (g : Nat) (A : Option Addr) (c : Nat) (xs : List S27) (hs : w.heap[g]? = some (.cells #[.slice A xs.length c] 42 (0, 0))) (hC : Kd.C k27 w A xs.length xs) (hl : xs.length ≤ 400000) :
    Calls Try.prog 43 #[.pointer (some ⟨g, 0, none⟩)] w (BndQ w xs) := by
  obtain ⟨n, hn⟩ : ∃ n, xs.length = n := ⟨_, rfl⟩
  rw [hn] at hs hC hl
  have HC := Aside0.mk hC
  have HS := Aside0.mk hs
  have HN := Aside0.mk hn
  clear hC hs hn
  go_enter Try.func43, Try.ntmps43
  go_wp2
  go_loopw [3, 4] (fun l i W => ∃ k : Nat, k ≤ n ∧ i = .int .i64 k ∧ Aside0 (Kd.R Kd.string 9 W w.heap.size (fun _ => True) l (bnds (xs.take k))) ∧ Aside0 (Below w.heap.size w W)) (fun _ i _ => n - (intOf i).toNat)
  case atStart => exact ⟨0, Nat.zero_le _, rfl, ⟨Kd.R_nil _ _ _ _ _⟩, ⟨Below.refl _ _⟩⟩
  case round =>
    obtain ⟨k, hk, rfl, HR, HB⟩ := hrel
    have hcg := cell_of_one (blk_below HS.out HB.out)
    by_cases hkn : k < n
    · clear hk
      have hkx : k < xs.length := by rw [HN.out]; exact hkn
      have HT := Aside0.mk (bnds_take hkx)
      have hbl := bnds_len (xs.take k)
      rw [List.length_take] at hbl
      have HL1 := Aside0.mk (show (bnds (xs.take k)).length ≤ 1000000 by omega)
      obtain ⟨x, hx⟩ : ∃ x, rd_T27 xs (k : Int) = x := ⟨_, rfl⟩
      obtain ⟨B, hBd⟩ : ∃ B, bnds (xs.take k) = B := ⟨_, rfl⟩
      have HL2 := Aside0.mk (show (ins B x.f0).length ≤ 1000000 by rw [← hBd]; have := ins_len (bnds (xs.take k)) x.f0; omega)
      rw [hBd] at HL1 HR
      rw [hx, hBd] at HT
      clear hbl hBd hkx
      obtain ⟨ad, eA, x0, x1, x2⟩ := at_T27 HC.out (k : Int) (by omega) (by omega)
      subst eA
      rw [hx] at x0 x1 x2
      rw [Int.toNat_natCast] at x0 x1 x2
      have X1 := Aside0.mk x1
      replace x0 := pw_cell_below HB.out x0
      clear hx x1 x2
      go_wp2_with (first
        | (go_at_call 54; refine (flintref12_lay.calls _ (fun _ => True) _ _ x.f0 _ w _ HB.out HR.out (lay_some _ _ HL1.out)).mono ?_; rintro r w2 ⟨v, rfl, hR, hb, -⟩; have HR2 := Aside0.mk (Kd.R_mono hR (fun _ _ => trivial)); have hcg2 := cell_of_one (blk_below HS.out hb); have y1 := pw_cell_below hb X1.out; clear HB HR hcg x0 hR; have HB2 := Aside0.mk hb; clear hb)
        | (go_at_call 54; refine (flintref12_lay.calls _ (fun _ => True) _ _ x.f1 _ w _ HB2.out HR2.out (lay_some _ _ HL2.out)).mono ?_; rintro r w3 ⟨v3, rfl, hR, hb, -⟩; have HR3 := Aside0.mk (Kd.R_mono hR (fun _ _ => trivial)); have HB3 := Aside0.mk hb; clear hb hR))
      go_roundw
      case measure => simp [intOf]; omega
      case rel => exact ⟨k + 1, by omega, by go_num, ⟨by rw [HT.out]; exact HR3.out⟩, HB3⟩
    · obtain rfl : k = n := by omega
      rw [List.take_of_length_le (by rw [HN.out]; exact Nat.le_refl _)] at HR
      go_wp2
      go_ret
      exact ⟨_, rfl, HR.out, HB.out⟩
end Go.Proofs.Ytpfkfnphjbgohaa.El
