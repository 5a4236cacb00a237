/- Several texts of this session laid together: SgCr, SgRp, SgRf, SgRg, SgRh. -/
import Derived.Test.YtjnicooboiijgaaMSd
import Derived.Test.YtjnicooboiijgaaPSgx4
import Derived.Test.YtjnicooboiijgaaPSgx7
section
/-
  The checksum bit by bit and by half bytes.
-/
set_option linter.unusedVariables false
set_option linter.unusedSimpArgs false
namespace Go.Proofs.Ytjnicooboiijgaa.Sg
open Go.RowKit Go.Proofs.YtjnicooboiijgaaW.PrintWords Go.Proofs.YtjnicooboiijgaaW.PrintLast Go.Proofs.YtjnicooboiijgaaW.PrintMore Go.Proofs.Ytjnicooboiijgaa.PSg Go.Proofs.Ytjnicooboiijgaa.Gf Go.Proofs.Ytjnicooboiijgaa.Rs
theorem crc1_xor (a b : Nat) : crc1 (a ^^^ b) = crc1 a ^^^ crc1 b := by
  have h1 : (a ^^^ b) / 2 = a / 2 ^^^ b / 2 := by have := @Nat.xor_div_two_pow a b 1; simpa using this
  have h2 : (a ^^^ b) % 2 = (a % 2) ^^^ (b % 2) := by have := @Nat.xor_mod_two_pow a b 1; simpa using this
  unfold crc1
  rw [h1, h2]
  have ha : a % 2 = 0 ∨ a % 2 = 1 := by omega
  have hb : b % 2 = 0 ∨ b % 2 = 1 := by omega
  rcases ha with ha | ha <;> rcases hb with hb | hb <;> rw [ha, hb] <;> simp
  · ac_rfl
  · ac_rfl
  · rw [show (a / 2 ^^^ 2197175160) ^^^ (b / 2 ^^^ 2197175160) = (a / 2 ^^^ b / 2) ^^^ (2197175160 ^^^ 2197175160) by ac_rfl, Nat.xor_self, Nat.xor_zero]
theorem crcN_xor : ∀ (n a b : Nat), crcN n (a ^^^ b) = crcN n a ^^^ crcN n b
  | 0, _, _ => rfl
  | n + 1, a, b => by show crc1 _ = crc1 _ ^^^ crc1 _; rw [crcN_xor n, crc1_xor]
theorem crc1_even (c : Nat) : crc1 (2 * c) = c := by unfold crc1; rw [if_neg (by omega)]; omega
theorem crcN_16 (c : Nat) : crcN 4 (16 * c) = c := by
  show crc1 (crc1 (crc1 (crc1 (16 * c)))) = c
  rw [show 16 * c = 2 * (2 * (2 * (2 * c))) by omega, crc1_even, crc1_even, crc1_even, crc1_even]
theorem split16 (c : Nat) : c = 16 * (c / 16) ^^^ c % 16 := by
  apply Nat.eq_of_testBit_eq
  intro i
  rw [Nat.testBit_xor, show (16 : Nat) = 2 ^ 4 from rfl, Nat.testBit_two_pow_mul, Nat.testBit_mod_two_pow, Nat.testBit_div_two_pow]
  by_cases h : i < 4
  · have h4 : ¬ 4 ≤ i := by omega
    simp [h, h4]
  · have h4 : 4 ≤ i := by omega
    simp [h, h4]
theorem half_crc (c : Nat) : half c = crcN 4 c := by
  conv => rhs; rw [split16 c]
  rw [crcN_xor, crcN_16]
  rfl
theorem crcN_add : ∀ (m n c : Nat), crcN m (crcN n c) = crcN (m + n) c
  | 0, n, c => by rw [Nat.zero_add]; rfl
  | m + 1, n, c => by rw [Nat.succ_add]; show crc1 _ = crc1 _; rw [crcN_add m n c]
theorem stepB_crc (c x : Nat) : stepB c x = crcN 8 (c ^^^ x) := by unfold stepB; rw [half_crc, half_crc, crcN_add]
theorem rstep_l0 (K : Nat) : ∀ (d c i : Nat), c < 4294967296 → i + d = 8 → d < K → flintref1_step.l0 K (c : Int) (i : Int) = some ((crcN d c : Nat) : Int) := by
  induction K with
  | zero => intro d c i _ _ h; omega
  | succ K ih =>
    intro d c i hc hi hK
    unfold flintref1_step.l0
    cases d with
    | zero => rw [if_neg (by omega)]; rfl
    | succ d =>
      rw [if_pos (by omega)]
      have ew : wrap64 ((i : Int) + 1) = ((i + 1 : Nat) : Int) := by unfold wrap64; omega
      have ea : Go.bits .and .u32 (c : Int) 1 = ((c % 2 : Nat) : Int) := by
        rw [show (1 : Int) = ((1 : Nat) : Int) from rfl, u32_and_nat c 1 hc (by omega)]
        congr 1
        exact Nat.and_two_pow_sub_one_eq_mod c 1
      have ed : ((c : Int) / 2) = ((c / 2 : Nat) : Int) := by omega
      rw [ew, ea, ed]
      have e1 : crcN (d + 1) c = crcN d (crc1 c) := by rw [show crc1 c = crcN 1 c from rfl, crcN_add]
      rw [e1]
      by_cases h : c % 2 = 1
      · rw [if_pos (by omega)]
        have ex : Go.bits .xor .u32 ((c / 2 : Nat) : Int) 2197175160 = ((crc1 c : Nat) : Int) := by
          rw [show (2197175160 : Int) = ((2197175160 : Nat) : Int) from rfl, u32_xor_nat _ _ (by omega) (by omega)]
          unfold crc1
          rw [if_pos h]
        rw [ex]
        exact ih d (crc1 c) (i + 1) (crc1_lt c hc) (by omega) (by omega)
      · rw [if_neg (by omega)]
        have ex : ((c / 2 : Nat) : Int) = ((crc1 c : Nat) : Int) := by unfold crc1; rw [if_neg h]
        rw [ex]
        exact ih d (crc1 c) (i + 1) (crc1_lt c hc) (by omega) (by omega)
theorem rstep_f (K c x : Nat) (hc : c < 4294967296) (hx : x < 256) (hK : 8 < K) : flintref1_step.f K (c : Int) (x : Int) = some ((stepB c x : Nat) : Int) := by
  unfold flintref1_step.f
  rw [show ((x : Int) % 4294967296) = (x : Int) by omega, u32_xor_nat c x hc (by omega), stepB_crc]
  exact rstep_l0 K 8 _ 0 (Nat.xor_lt_two_pow (n := 32) hc (by omega)) (by omega) hK
theorem rsum_l0 (xs : List Int) (hx : bytes xs = true) (hl : xs.length ≤ 1000000) (K : Nat) : ∀ (d i : Nat), i + d = xs.length → d + 9 < K → flintref1_Sum.l0 K xs ((sumN [xs] 0 4294967295 i : Nat) : Int) (i : Int) = some ((sumF [xs] : Nat) : Int) := by
  have ok : okB [xs] = true := by unfold okB; simp only [List.all_cons, List.all_nil, Bool.and_true]; exact hx
  induction K with
  | zero => intro d i _ h; omega
  | succ K ih =>
    intro d i hi hK
    have hlt := sumN_lt ok 0 4294967295 (by omega) i
    unfold flintref1_Sum.l0
    cases d with
    | zero =>
      rw [if_neg (by omega)]
      rw [show (4294967295 : Int) = ((4294967295 : Nat) : Int) from rfl, u32_xor_nat _ _ hlt (by omega)]
      have e : sumF [xs] = 4294967295 ^^^ sumN [xs] 0 4294967295 xs.length := rfl
      rw [e, Nat.xor_comm, show xs.length = i by omega]
    | succ d =>
      rw [if_pos (by omega), if_pos (by omega)]
      have ew : wrap64 ((i : Int) + 1) = ((i + 1 : Nat) : Int) := by unfold wrap64; omega
      have er : rd xs (i : Int) = ((byt [xs] 0 i : Nat) : Int) := by
        have h := (okB_at ok 0 i).2
        rw [← h]
        rfl
      rw [er, rstep_f K _ _ hlt (okB_at ok 0 i).1 (by omega)]
      simp only [Option.bind_some]
      rw [ew]
      exact ih d (i + 1) (by omega) (by omega)
theorem rsum_f (xs : List Int) (hx : bytes xs = true) (hl : xs.length ≤ 1000000) (K : Nat) (hK : xs.length + 9 < K) : flintref1_Sum.f K xs = some ((sumF [xs] : Nat) : Int) := by
  unfold flintref1_Sum.f
  exact rsum_l0 xs hx hl K xs.length 0 (by omega) hK
end Go.Proofs.Ytjnicooboiijgaa.Sg
end

section
/-
  The reference's page is the program's.
-/
set_option linter.unusedVariables false
set_option linter.unusedSimpArgs false
namespace Go.Proofs.Ytjnicooboiijgaa.Sg
open Go.RowKit Go.Proofs.YtjnicooboiijgaaW.PrintWords Go.Proofs.YtjnicooboiijgaaW.PrintLast Go.Proofs.YtjnicooboiijgaaW.PrintMore Go.Proofs.Ytjnicooboiijgaa.PSg Go.Proofs.Ytjnicooboiijgaa.Gf Go.Proofs.Ytjnicooboiijgaa.Rs
theorem u64wrap (n : Nat) (h : n < 18446744073709551616) : IntKind.u64.wrap ((n : Nat) : Int) = ((n : Nat) : Int) := by
  show ((n : Nat) : Int) % 18446744073709551616 = _
  omega
theorem shr_u64 (x i : Nat) (hi : i ≤ 7) : shr .u64 (x : Int) (((8 * i : Nat)) : Int) = ((x / 256 ^ i : Nat) : Int) := by
  unfold shr
  rw [Int.toNat_natCast, Nat.min_eq_left (show 8 * i ≤ IntKind.u64.bits by show 8 * i ≤ 64; omega), show (2 : Int) ^ (8 * i) = ((256 ^ i : Nat) : Int) by rw [show (256 : Nat) ^ i = 2 ^ (8 * i) by rw [Nat.pow_mul]]; push_cast; rfl]
  rfl
theorem rlow_l0 (K : Nat) : ∀ (l : List Int) (x n d i : Nat), i + d = n → n ≤ 8 → d < K → l.length + d ≤ 1000000 → flintref1_Low.l0 K l (x : Int) (n : Int) (i : Int) = some (l ++ lowL d (x / 256 ^ i)) := by
  induction K with
  | zero => intro l x n d i _ _ h; omega
  | succ K ih =>
    intro l x n d i hi hn hK hl
    unfold flintref1_Low.l0
    cases d with
    | zero => rw [if_neg (by omega)]; simp [lowL]
    | succ d =>
      have ew : wrap64 ((i : Int) + 1) = ((i + 1 : Nat) : Int) := by unfold wrap64; omega
      have e8 : wrap64 (8 * (i : Int)) = ((8 * i : Nat) : Int) := by unfold wrap64; omega
      rw [if_pos (by omega), e8, u64wrap _ (by omega), if_pos (by omega), if_pos (by omega), ew, shr_u64 x i (by omega)]
      rw [ih (l ++ [((x / 256 ^ i : Nat) : Int) % 256]) x n d (i + 1) (by omega) hn (by omega) (by rw [List.length_append, List.length_singleton]; omega)]
      congr 1
      rw [List.append_assoc]
      congr 1
      show _ = ((x / 256 ^ i % 256 : Nat) : Int) :: lowL d (x / 256 ^ i / 256)
      rw [Nat.div_div_eq_div_mul, ← Nat.pow_succ]
      rfl
theorem rlow_f (K : Nat) (l : List Int) (x n : Nat) (hn : n ≤ 8) (hK : n < K) (hl : l.length ≤ 999990) : flintref1_Low.f K l (x : Int) (n : Int) = some (l ++ lowL n x) := by
  unfold flintref1_Low.f
  have h := rlow_l0 K l x n n 0 (by omega) hn hK (by omega)
  rw [Nat.pow_zero, Nat.div_one] at h
  exact h
theorem rfour_f (x : Nat) : flintref1_Four.f [] (x : Int) = some (lowL 4 x) := by
  unfold flintref1_Four.f
  simp only [Option.bind_some]
  rw [if_pos (by simp)]
  congr 1
  show _ = [((x % 256 : Nat) : Int), ((x / 256 % 256 : Nat) : Int), ((x / 256 / 256 % 256 : Nat) : Int), ((x / 256 / 256 / 256 % 256 : Nat) : Int)]
  rw [Nat.div_div_eq_div_mul, Nat.div_div_eq_div_mul]
  simp
theorem rpage_l0 (X : List Int) (sz : Nat) (hs1 : 32 ≤ sz) (hs2 : sz ≤ 65536) (hb : bytes X = true) (hX : X.length ≤ sz - 4) (K : Nat) : ∀ (d j : Nat), X.length + j + d = sz - 4 → d + 65550 < K → flintref1_Page.l0 K (sz : Int) (X ++ List.replicate j 0) = some (lowL 4 (sumF [X ++ List.replicate (sz - 4 - X.length) 0]) ++ (X ++ List.replicate (sz - 4 - X.length) 0), 0) := by
  induction K with
  | zero => intro d j _ h; omega
  | succ K ih =>
    intro d j hd hK
    have ew : wrap64 ((sz : Int) - 4) = ((sz - 4 : Nat) : Int) := by unfold wrap64; omega
    have hlen : (X ++ List.replicate j (0 : Int)).length = X.length + j := by rw [List.length_append, List.length_replicate]
    unfold flintref1_Page.l0
    rw [ew, hlen]
    cases d with
    | zero =>
      rw [if_neg (by omega)]
      have hj : j = sz - 4 - X.length := by omega
      subst hj
      have hbz : bytes (X ++ List.replicate (sz - 4 - X.length) (0 : Int)) = true := by
        unfold bytes at *
        rw [List.all_append, hb, Bool.true_and, List.all_eq_true]
        intro z hz
        rw [List.eq_of_mem_replicate hz]
        rfl
      rw [rsum_f _ hbz (by rw [hlen]; omega) K (by rw [hlen]; omega)]
      simp only [Option.bind_some]
      rw [rfour_f]
      simp only [Option.bind_some]
      rw [if_pos (by rw [lowL_len]; omega)]
    | succ d =>
      rw [if_pos (by omega), if_pos (by omega), List.append_assoc, ← List.replicate_succ']
      exact ih d (j + 1) (by omega) (by omega)
theorem rpage_f (K sz seg row shard : Nat) (s3 : Int) (pl : List Int) (h1 : 32 ≤ sz) (h2 : sz ≤ 65536) (hseg : seg < 18446744073709551616) (hrow : row ≤ 1073741824) (hsh : shard ≤ 255) (hb : bytes pl = true) (hl : pl.length ≤ roomN sz) (hK : 140000 < K) :
    flintref1_Page.f K sz seg row shard s3 pl = some (pageL sz seg row shard pl, 0) := by
  have hr := room_pos h1 h2
  have hr19 : roomN sz ≤ sz - 19 := by unfold roomN; rw [if_neg (by omega)]; exact Nat.min_le_left _ _
  have hroom : ∀ k, 0 < k → flintref1_Room.f k (sz : Int) = some ((roomN sz : Nat) : Int) := fun k hk => by
    have h := rroom_yes h1 h2
    unfold flintref1_Room.f at h ⊢
    rw [if_neg (by omega)] at h ⊢
    obtain ⟨k', rfl⟩ : ∃ k', k = k' + 1 := ⟨k - 1, by omega⟩
    unfold flintref1_Room.j0 at h ⊢
    exact h
  obtain ⟨k, rfl⟩ : ∃ k, K = k + 1 := ⟨K - 1, by omega⟩
  unfold flintref1_Page.f
  rw [hroom (k + 1) (by omega)]
  simp only [Option.bind_some]
  rw [if_neg (by omega), if_neg (by omega), if_neg (by omega), if_neg (by omega)]
  have hd : decide ((shard : Int) > 255) = false := decide_eq_false (by omega)
  rw [hd]
  unfold flintref1_Page.j0
  dsimp only
  rw [if_neg (by simp), hroom k (by omega)]
  simp only [Option.bind_some]
  rw [if_neg (by omega)]
  have e8 := rlow_f k [] seg 8 (by omega) (by omega) (by simp)
  rw [List.nil_append] at e8
  rw [show (8 : Int) = ((8 : Nat) : Int) from rfl, e8]
  simp only [Option.bind_some]
  rw [u64wrap row (by omega), show (4 : Int) = ((4 : Nat) : Int) from rfl, rlow_f k (lowL 8 seg) row 4 (by omega) (by omega) (by rw [lowL_len]; omega)]
  simp only [Option.bind_some]
  rw [if_pos (by rw [List.length_append, lowL_len, lowL_len]; omega)]
  have es : ((shard : Int) % 256) = ((shard % 256 : Nat) : Int) := by omega
  rw [es, u64wrap pl.length (by omega), show (2 : Int) = ((2 : Nat) : Int) from rfl, rlow_f k _ pl.length 2 (by omega) (by omega) (by simp only [List.length_append, lowL_len, List.length_singleton]; omega)]
  simp only [Option.bind_some]
  have hXl : (lowL 8 seg ++ lowL 4 row ++ [((shard % 256 : Nat) : Int)] ++ lowL 2 pl.length ++ pl).length = 15 + pl.length := by simp only [List.length_append, lowL_len, List.length_singleton]
  rw [if_pos (by simp only [List.length_append, lowL_len, List.length_singleton]; omega)]
  have hXb : bytes (lowL 8 seg ++ lowL 4 row ++ [((shard % 256 : Nat) : Int)] ++ lowL 2 pl.length ++ pl) = true := by
    unfold bytes at *
    have h8 := lowL_ok 8 seg
    have h4 := lowL_ok 4 row
    have hs := lowL_ok 1 shard
    have h2 := lowL_ok 2 pl.length
    simp only [List.all_append, h8, h4, h2, hb, Bool.and_true, Bool.true_and]
    exact hs
  have h := rpage_l0 _ sz h1 h2 hXb (by omega) k (sz - 4 - (15 + pl.length)) 0 (by omega) (by omega)
  rw [List.replicate_zero, List.append_nil, hXl] at h
  rw [h]
  unfold pageL bodyL
  rw [show sz - 4 - (15 + pl.length) = sz - 19 - pl.length by omega]
  rfl
end Go.Proofs.Ytjnicooboiijgaa.Sg
end

section
/-
  The reference's code in plain words: parity, Parity, which shards are there.
-/
set_option linter.unusedVariables false
set_option linter.unusedSimpArgs false
namespace Go.Proofs.Ytjnicooboiijgaa.Rs
open Go.RowKit Go.Proofs.YtjnicooboiijgaaW.PrintWords Go.Proofs.YtjnicooboiijgaaW.PrintLast Go.Proofs.YtjnicooboiijgaaW.PrintMore Go.Proofs.Ytjnicooboiijgaa.PSg Go.Proofs.Ytjnicooboiijgaa.Gf
theorem M_one_left (a : Nat) (h : a < 256) : GfM.M 1 a = a := by rw [GfM.M_comm 1 a (by omega) h, GfM.M_one a h]
theorem rowL_congr {m : Nat} {f g : Nat → Nat} (h : ∀ x, x < m → f x = g x) : rowL m f = rowL m g := by
  unfold rowL
  apply List.map_congr_left
  intro x hx
  rw [h x (by simpa using hx)]
theorem rowL_set {m i v : Nat} {f : Nat → Nat} : (rowL m f).set i ((v : Nat) : Int) = rowL m fun x => if x = i then v else f x := by
  refine List.ext_getElem (by simp [rowL]) fun x h1 h2 => ?_
  have h3 : x < m := by simpa [rowL] using h2
  rw [List.getElem_set]
  by_cases e : i = x
  · subst e; simp [rowL]
  · rw [if_neg e]
    simp only [rowL, List.getElem_map, List.getElem_range]
    rw [if_neg (fun h => e h.symm)]
theorem rowL_rd {m i : Nat} {f : Nat → Nat} (hi : i < m) : rd (rowL m f) (i : Int) = ((f i : Nat) : Int) := by
  simp [rd, rowL, List.getD, hi]
theorem rd_L1_row (l : List (List Int)) (i : Nat) : rd_L1 l (i : Int) = row l i := by simp [rd_L1, row]
theorem rd_byt {l : List (List Int)} (ok : okB l = true) (i j : Nat) : rd (row l i) (j : Int) = ((byt l i j : Nat) : Int) := by
  rw [← (okB_at ok i j).2]; simp [rd]
/-- A column's sum so far. -/
def parP (D : List (List Int)) (k r i j x : Nat) : Nat := if x < i then tcol (rho r) D k x else if x = i then tcol (rho r) D j x else 0
theorem parity_l1 (D : List (List Int)) (k m i K0 : Nat) (hD : D.length = k) (ok : okB D = true) (hm : ∀ q, q < k → (row D q).length = m) (hk : k ≤ 1000) (hi : i < m) (hm9 : m ≤ 1000000) (R : Option (List (List Int)))
    (hnext : ∀ K, K0 < K → flintref6_parity.l0 K D (rowL m (parP D k 0 (i + 1) 0)) (rowL m (parP D k 1 (i + 1) 0)) ((i + 1 : Nat) : Int) = R) :
    ∀ d K j : Nat, d + j = k → d + 1 + 20 + K0 < K → flintref6_parity.l1 K D (rowL m (parP D k 0 i j)) (rowL m (parP D k 1 i j)) i ((GfM.g j : Nat) : Int) j = R := by
  intro d
  induction d with
  | zero =>
    intro K j hd hK
    obtain ⟨K, rfl⟩ : ∃ n, K = n + 1 := ⟨K - 1, by omega⟩
    simp only [flintref6_parity.l1]
    rw [if_neg (by omega), wrap_inc _ (by omega) (by omega)]
    have e : ∀ r, rowL m (parP D k r i j) = rowL m (parP D k r (i + 1) 0) := fun r => rowL_congr fun x hx => by
      unfold parP
      by_cases h1 : x < i
      · rw [if_pos h1, if_pos (by omega)]
      · by_cases h2 : x = i
        · rw [if_neg h1, if_pos h2, if_pos (by omega), show j = k by omega]
        · rw [if_neg h1, if_neg h2, if_neg (by omega)]
          by_cases h3 : x = i + 1
          · rw [if_pos h3]; rfl
          · rw [if_neg h3]
    rw [e 0, e 1]
    exact hnext K (by omega)
  | succ d ih =>
    intro K j hd hK
    obtain ⟨K, rfl⟩ : ∃ n, K = n + 1 := ⟨K - 1, by omega⟩
    simp only [flintref6_parity.l1]
    rw [if_pos (by omega), if_pos (by omega), rowL_length, if_pos (by omega), if_pos (by omega), rd_L1_row, hm j (by omega), if_pos (by omega), rowL_length, if_pos (by omega), rd_byt ok, GaFacts.rmul_ok K (GfM.g j) _ (by omega) (GfM.g_lt j) (okB_at ok j i).1]
    simp only [Option.bind_some]
    rw [show (2 : Int) = ((2 : Nat) : Int) from rfl, GaFacts.rmul_ok K (GfM.g j) 2 (by omega) (GfM.g_lt j) (by omega)]
    simp only [Option.bind_some]
    rw [wrap_inc _ (by omega) (by omega), rowL_rd hi, rowL_rd hi, Int.toNat_natCast]
    have hl : ∀ r j, parP D k r i j i < 256 := fun r j => by
      unfold parP
      rw [if_neg (by omega), if_pos rfl]
      exact sx_lt _ _ fun q _ => GfM.M_lt _ _ (GfM.g_lt _)
    rw [PSg.xor_nat _ _ (hl 0 j) (okB_at ok j i).1, PSg.xor_nat _ _ (hl 1 j) (GfM.M_lt _ _ (GfM.g_lt j)), rowL_set, rowL_set, show GfM.M (GfM.g j) 2 = GfM.g (j + 1) from GfM.g_add j 1]
    have e0 : rowL m (fun x => if x = i then parP D k 0 i j i ^^^ byt D j i else parP D k 0 i j x) = rowL m (parP D k 0 i (j + 1)) := rowL_congr fun x hx => by
      by_cases h : x = i
      · subst h
        rw [if_pos rfl]
        unfold parP
        rw [if_neg (by omega), if_pos rfl, if_neg (by omega), if_pos rfl]
        show _ = tcol (rho 0) D j x ^^^ GfM.M (rho 0 j) (byt D j x)
        rw [show rho 0 j = 1 by unfold rho; rw [Nat.zero_mul]; rfl, M_one_left _ (okB_at ok j x).1]
      · rw [if_neg h]; unfold parP; rw [if_neg h, if_neg h]
    have e1 : rowL m (fun x => if x = i then parP D k 1 i j i ^^^ GfM.M (GfM.g j) (byt D j i) else parP D k 1 i j x) = rowL m (parP D k 1 i (j + 1)) := rowL_congr fun x hx => by
      by_cases h : x = i
      · subst h
        rw [if_pos rfl]
        unfold parP
        rw [if_neg (by omega), if_pos rfl, if_neg (by omega), if_pos rfl]
        show _ = tcol (rho 1) D j x ^^^ GfM.M (rho 1 j) (byt D j x)
        rw [show rho 1 j = GfM.g j by unfold rho; rw [Nat.one_mul]]
      · rw [if_neg h]; unfold parP; rw [if_neg h, if_neg h]
    rw [e0, e1]
    exact ih K (j + 1) (by omega) (by omega)
theorem parity_l0 (D : List (List Int)) (k m : Nat) (hD : D.length = k) (ok : okB D = true) (hm : ∀ q, q < k → (row D q).length = m) (hk : k ≤ 1000) (hm9 : m ≤ 1000000) :
    ∀ e i K : Nat, e + i = m → e * (k + 30) + 20 < K → flintref6_parity.l0 K D (rowL m (parP D k 0 i 0)) (rowL m (parP D k 1 i 0)) i = some [rowL m (tcol (rho 0) D k), rowL m (tcol (rho 1) D k)] := by
  intro e
  induction e with
  | zero =>
    intro i K he hK
    obtain ⟨K, rfl⟩ : ∃ n, K = n + 1 := ⟨K - 1, by omega⟩
    simp only [flintref6_parity.l0]
    rw [rowL_length, if_neg (by omega)]
    have q : ∀ r, rowL m (parP D k r i 0) = rowL m (tcol (rho r) D k) := fun r => rowL_congr fun x hx => by unfold parP; rw [if_pos (by omega)]
    rw [q 0, q 1]
  | succ e ih =>
    intro i K he hK
    obtain ⟨K, rfl⟩ : ∃ n, K = n + 1 := ⟨K - 1, by omega⟩
    simp only [flintref6_parity.l0]
    rw [rowL_length, if_pos (by omega)]
    rw [Nat.succ_mul] at hK
    exact parity_l1 D k m i (e * (k + 30) + 20) hD ok hm hk (by omega) hm9 _ (fun K hK => ih (i + 1) K (by omega) hK) k K 0 (by omega) (by omega)
theorem rowL_zero (m : Nat) : List.replicate m (0 : Int) = rowL m fun _ => 0 := by
  refine List.ext_getElem (by simp [rowL]) fun x h1 h2 => by simp [rowL]
theorem parity_ok (K : Nat) (D : List (List Int)) (k m : Nat) (hD : D.length = k) (ok : okB D = true) (hm : ∀ q, q < k → (row D q).length = m) (hk1 : 1 ≤ k) (hk : k ≤ 1000) (hm9 : m ≤ 1000000) (hK : m * (k + 30) + 20 < K) : flintref6_parity.f K D = some [rowL m (tcol (rho 0) D k), rowL m (tcol (rho 1) D k)] := by
  unfold flintref6_parity.f
  rw [if_pos (by omega), show rd_L1 D 0 = row D 0 from rd_L1_row D 0, hm 0 (by omega), if_pos (by omega), Int.toNat_natCast, if_pos (by omega), rowL_zero]
  have q : ∀ r, rowL m (fun _ => 0) = rowL m (parP D k r 0 0) := fun r => rowL_congr fun x hx => by
    unfold parP
    rw [if_neg (by omega)]
    split <;> rfl
  have := parity_l0 D k m hD ok hm hk hm9 m 0 K (by omega) hK
  rw [← q 0, ← q 1] at this
  exact this
/-- Parity, where the shards are alike. -/
theorem Parity_l0 (D : List (List Int)) (k m : Nat) (hD : D.length = k) (hk1 : 1 ≤ k) (hk : k ≤ 1000) (R : List (List Int)) (hm : ∀ q, q < k → (row D q).length = m) (K0 : Nat) (hR : ∀ K, K0 < K → flintref6_parity.f K D = some R) : ∀ d K i : Nat, d + i = k → d + 1 + K0 < K → flintref6_Parity.l0 K k D i = some (R, 0) := by
  intro d
  induction d with
  | zero =>
    intro K i hd hK
    obtain ⟨K, rfl⟩ : ∃ n, K = n + 1 := ⟨K - 1, by omega⟩
    simp only [flintref6_Parity.l0]
    rw [if_neg (by omega), hR K (by omega)]
    rfl
  | succ d ih =>
    intro K i hd hK
    obtain ⟨K, rfl⟩ : ∃ n, K = n + 1 := ⟨K - 1, by omega⟩
    simp only [flintref6_Parity.l0]
    rw [if_pos (by omega), if_pos (by omega), if_pos (by omega), if_pos (by omega), rd_L1_row, show rd_L1 D 0 = row D 0 from rd_L1_row D 0, hm i (by omega), hm 0 (by omega), if_pos rfl, wrap_inc _ (by omega) (by omega)]
    exact ih K (i + 1) (by omega) (by omega)
theorem Parity_bad (D : List (List Int)) (k : Nat) (hD : D.length = k) (hk1 : 1 ≤ k) (hk : k ≤ 1000) (q : Nat) (hq : q < k) (hne : (row D q).length ≠ (row D 0).length) : ∀ d K i : Nat, d + i = q → d + 1 < K → flintref6_Parity.l0 K k D i = some ([], 1) := by
  intro d
  induction d with
  | zero =>
    intro K i hd hK
    obtain ⟨K, rfl⟩ : ∃ n, K = n + 1 := ⟨K - 1, by omega⟩
    simp only [flintref6_Parity.l0]
    rw [if_pos (by omega), if_pos (by omega), if_pos (by omega), if_pos (by omega), rd_L1_row, show rd_L1 D 0 = row D 0 from rd_L1_row D 0, if_neg (by rw [show i = q by omega]; omega)]
  | succ d ih =>
    intro K i hd hK
    obtain ⟨K, rfl⟩ : ∃ n, K = n + 1 := ⟨K - 1, by omega⟩
    simp only [flintref6_Parity.l0]
    rw [if_pos (by omega), if_pos (by omega), if_pos (by omega), if_pos (by omega), rd_L1_row, show rd_L1 D 0 = row D 0 from rd_L1_row D 0, wrap_inc _ (by omega) (by omega)]
    split
    · exact ih K (i + 1) (by omega) (by omega)
    · rfl
/-- Are there so many shards, of one length that is not 0? -/
def parB (k : Nat) (D : List (List Int)) : Bool := decide (D.length = k) && decide ((row D 0).length ≠ 0) && (List.range k).all fun q => decide ((row D q).length = (row D 0).length)
theorem Parity_ok (K : Nat) (D : List (List Int)) (k : Nat) (ok : okB D = true) (hk1 : 1 ≤ k) (hk : k ≤ 1000) (hm9 : (row D 0).length ≤ 1000000) (hK : (row D 0).length * (k + 30) + k + 100 < K) :
    flintref6_Parity.f K k D = some (if parB k D = true then ([rowL (row D 0).length (tcol (rho 0) D k), rowL (row D 0).length (tcol (rho 1) D k)], 0) else ([], 1)) := by
  unfold flintref6_Parity.f
  have j1 : ∀ K, 0 < K → flintref6_Parity.j0 K k D true = some ([], 1) := fun K h => by
    obtain ⟨K, rfl⟩ : ∃ n, K = n + 1 := ⟨K - 1, by omega⟩
    simp [flintref6_Parity.j0]
  by_cases h1 : D.length = k
  · rw [if_pos (by omega), if_pos (by omega), show rd_L1 D 0 = row D 0 from rd_L1_row D 0]
    by_cases h2 : (row D 0).length = 0
    · rw [show ((((row D 0).length : Nat) : Int) == 0) = true by simp [h2], j1 K (by omega), if_neg (by simp [parB, h2])]
    · have e : ((((row D 0).length : Nat) : Int) == 0) = false := beq_eq_false_iff_ne.mpr (by omega)
      rw [e]
      obtain ⟨K, rfl⟩ : ∃ n, K = n + 1 := ⟨K - 1, by omega⟩
      simp only [flintref6_Parity.j0]
      rw [if_neg (by simp)]
      by_cases h3 : ∀ q, q < k → (row D q).length = (row D 0).length
      · rw [if_pos (by simp only [parB, Bool.and_eq_true, decide_eq_true_eq, List.all_eq_true, List.mem_range]; exact ⟨⟨h1, h2⟩, h3⟩)]
        exact Parity_l0 D k _ h1 hk1 hk _ h3 ((row D 0).length * (k + 30) + 20) (fun K hK => parity_ok K D k _ h1 ok h3 hk1 hk hm9 hK) (k - 1) K 1 (by omega) (by omega)
      · rw [if_neg (by simp only [parB, Bool.and_eq_true, decide_eq_true_eq, List.all_eq_true, List.mem_range]; exact fun h => h3 h.2)]
        obtain ⟨q, hq⟩ := Classical.not_forall.mp h3
        rw [Classical.not_imp] at hq
        have hq0 : q ≠ 0 := fun e => hq.2 (by rw [e])
        have := hq.1
        exact Parity_bad D k h1 hk1 hk q hq.1 hq.2 (q - 1) K 1 (by omega) (by omega)
  · rw [if_neg (by omega), j1 K (by omega), if_neg (by simp [parB, h1])]
end Go.Proofs.Ytjnicooboiijgaa.Rs
end

section
/-
  The reference's Pages are the program's.
-/
set_option linter.unusedVariables false
set_option linter.unusedSimpArgs false
namespace Go.Proofs.Ytjnicooboiijgaa.Sg
open Go.RowKit Go.Proofs.YtjnicooboiijgaaW.PrintWords Go.Proofs.YtjnicooboiijgaaW.PrintLast Go.Proofs.YtjnicooboiijgaaW.PrintMore Go.Proofs.Ytjnicooboiijgaa.PSg Go.Proofs.Ytjnicooboiijgaa.Gf Go.Proofs.Ytjnicooboiijgaa.Rs
theorem rroom_k {K s : Nat} (hK : 0 < K) (h1 : 32 ≤ s) (h2 : s ≤ 65536) : flintref1_Room.f K (s : Int) = some ((roomN s : Nat) : Int) := by
  have h := rroom_yes h1 h2
  unfold flintref1_Room.f at h ⊢
  rw [if_neg (by omega)] at h ⊢
  obtain ⟨k', rfl⟩ : ∃ k', K = k' + 1 := ⟨K - 1, by omega⟩
  unfold flintref1_Room.j0 at h ⊢
  exact h
theorem rcheck_k {K k p s : Nat} (hK : 0 < K) (hf : Fits k p s) : flintref9_Check.f K k p s = some 0 := by
  have h := room_pos hf.s1 hf.s2
  have := hf.k1; have := hf.k2; have := hf.p1; have := hf.p2
  unfold flintref9_Check.f
  rw [if_neg (by omega), if_neg (by omega), if_neg (by omega), if_neg (by omega), rroom_k hK hf.s1 hf.s2]
  simp only [Option.bind_some]
  rw [if_neg (by omega)]
theorem rrow_k {K k p s : Nat} (hK : 0 < K) (hf : Fits k p s) : flintref9_Row.f K k p s = some ((k * roomN s : Nat) : Int) := by
  have h := row_lt hf
  unfold flintref9_Row.f
  rw [rcheck_k hK hf]
  simp only [Option.bind_some, if_true]
  rw [rroom_k hK hf.s1 hf.s2]
  simp only [Option.bind_some]
  rw [← Int.natCast_mul, i64n (by omega)]
section
variable {k p s : Nat} (hf : Fits k p s) (seg row : Nat) (hseg : seg < 18446744073709551616) (hrow : row ≤ 1073741824)
include hf hseg hrow
/-- The pages, one by one. -/
theorem rpages_l2 (D : List (List Int)) (hD : D.length ≤ 34) (hb : ∀ i, i < D.length → bytes (Gf.row D i) = true) (hl : ∀ i, i < D.length → (Gf.row D i).length ≤ roomN s) : ∀ (d i K : Nat), i + d = D.length → d + 140010 < K →
    flintref9_Pages.l2 K seg row D ((List.range i).map fun q => pageL s seg row q (Gf.row D q)) (i : Int) k p s = some (pagesL s seg row D, 0) := by
  intro d
  induction d with
  | zero =>
    intro i K hi hK
    obtain ⟨K, rfl⟩ : ∃ n, K = n + 1 := ⟨K - 1, by omega⟩
    unfold flintref9_Pages.l2
    rw [if_neg (by omega)]
    unfold pagesL
    rw [show i = D.length by omega]
  | succ d ih =>
    intro i K hi hK
    obtain ⟨K, rfl⟩ : ∃ n, K = n + 1 := ⟨K - 1, by omega⟩
    unfold flintref9_Pages.l2
    rw [if_pos (by omega), if_pos (by omega), rd_L1_row, rpage_f K s seg row i 0 (Gf.row D i) hf.s1 hf.s2 hseg hrow (by omega) (hb i (by omega)) (hl i (by omega)) (by omega)]
    simp only [Option.bind_some]
    rw [if_pos (by rw [List.length_map, List.length_range]; omega)]
    have ew : wrap64 ((i : Int) + 1) = ((i + 1 : Nat) : Int) := by unfold wrap64; omega
    rw [ew]
    have e : ((List.range i).map fun q => pageL s seg row q (Gf.row D q)) ++ [pageL s seg row i (Gf.row D i)] = (List.range (i + 1)).map fun q => pageL s seg row q (Gf.row D q) := by rw [List.range_succ, List.map_append]; rfl
    rw [e]
    exact ih (i + 1) K (by omega) (by omega)
/-- The shards, one by one. -/
theorem rpages_l1 (X : List Int) (N : Nat) (hN : k * roomN s = N) (hX : X.length = N) (hb : bytes X = true) : ∀ (d i K : Nat), i + d = k → d + 5000000 < K →
    flintref9_Pages.l1 K seg row (roomN s) X ((List.range i).map fun q => chunk X (roomN s) q) (i : Int) k p s = some (pagesL s seg row (payL X k (roomN s)), 0) := by
  have hr := room_pos hf.s1 hf.s2
  have hk2 := hf.k2
  have hk1 := hf.k1
  have hNl := row_lt hf
  intro d
  induction d with
  | zero =>
    intro i K hi hK
    obtain ⟨K, rfl⟩ : ∃ n, K = n + 1 := ⟨K - 1, by omega⟩
    obtain rfl : i = k := by omega
    unfold flintref9_Pages.l1
    rw [if_neg (by omega)]
    have hsh : ((List.range i).map fun q => chunk X (roomN s) q) = shardsL X i (roomN s) := rfl
    have h0 : ∀ q, q < i → (Gf.row (shardsL X i (roomN s)) q).length = roomN s := fun q hq => by rw [shardsL_row hq]; exact chunk_len hX hN hq
    rw [hsh, Parity_ok K (shardsL X i (roomN s)) i (shardsL_ok hb) hk1 (by omega) (by rw [h0 0 (by omega)]; omega) (by
      rw [h0 0 (by omega)]
      have : roomN s * (i + 30) ≤ 65517 * 62 := Nat.mul_le_mul hr.2 (by omega)
      omega)]
    have hp : parB i (shardsL X i (roomN s)) = true := by
      unfold parB
      simp only [Bool.and_eq_true, decide_eq_true_eq, List.all_eq_true, List.mem_range]
      exact ⟨⟨shardsL_len, by rw [h0 0 (by omega)]; omega⟩, fun q hq => by rw [h0 q hq, h0 0 (by omega)]⟩
    rw [if_pos hp, h0 0 (by omega), Option.bind_some]
    refine (if_pos (show (shardsL X i (roomN s)).length + 2 < 5864062014805 by rw [shardsL_len]; omega)).trans ?_
    have hpl : (payL X i (roomN s)).length = i + 2 := payL_len
    have h := rpages_l2 hf seg row hseg hrow (payL X i (roomN s)) (by omega) (fun q hq => (payL_all hX hN hb q (by omega)).2) (fun q hq => by rw [(payL_all hX hN hb q (by omega)).1]; exact Nat.le_refl _) (i + 2) 0 K (by omega) (by omega)
    exact h
  | succ d ih =>
    intro i K hi hK
    obtain ⟨K, rfl⟩ : ∃ n, K = n + 1 := ⟨K - 1, by omega⟩
    have hir : (i + 1) * roomN s ≤ N := by rw [← hN]; exact Nat.mul_le_mul_right _ (by omega)
    have his : (i + 1) * roomN s = i * roomN s + roomN s := Nat.succ_mul _ _
    have c1 : (i : Int) < (k : Int) := by omega
    have c4 : i * roomN s + roomN s ≤ X.length := by omega
    have c5 : i < 5864062014805 := by omega
    have c6 : i + 1 + d = k := by omega
    have c7 : d + 5000000 < K := by omega
    have e1 : wrap64 ((i : Int) * ((roomN s : Nat) : Int)) = ((i * roomN s : Nat) : Int) := by rw [← Int.natCast_mul]; exact i64n (by omega)
    have e2 : wrap64 (((i * roomN s : Nat) : Int) + ((roomN s : Nat) : Int)) = ((i * roomN s + roomN s : Nat) : Int) := by rw [← Int.natCast_add]; exact i64n (by omega)
    have ew : wrap64 ((i : Int) + 1) = ((i + 1 : Nat) : Int) := by clear e1 e2; unfold wrap64; omega
    unfold flintref9_Pages.l1
    refine (if_pos c1).trans ?_
    refine (if_pos (by rw [e1]; exact Int.natCast_nonneg _)).trans ?_
    refine (if_pos (by rw [e1, e2]; exact Int.ofNat_le.2 (Nat.le_add_right _ _))).trans ?_
    refine (if_pos (by rw [e1, e2]; exact Int.ofNat_le.2 c4)).trans ?_
    refine (if_pos (by rw [List.length_map, List.length_range]; exact c5)).trans ?_
    rw [e1, e2, ew, Int.toNat_natCast, Int.toNat_natCast]
    have ec : (X.take (i * roomN s + roomN s)).drop (i * roomN s) = chunk X (roomN s) i := by
      unfold chunk
      rw [List.drop_take, Nat.add_sub_cancel_left]
    rw [ec]
    have e : ((List.range i).map fun q => chunk X (roomN s) q) ++ [chunk X (roomN s) i] = (List.range (i + 1)).map fun q => chunk X (roomN s) q := by rw [List.range_succ, List.map_append]; rfl
    rw [e]
    exact ih (i + 1) K c6 c7
/-- The bytes, filled up. -/
theorem rpages_l0 (xs : List Int) (N : Nat) (hN : k * roomN s = N) (hx : xs.length ≤ N) (hb : bytes xs = true) : ∀ (d j K : Nat), xs.length + j + d = N → d + 5000100 < K →
    flintref9_Pages.l0 K seg row (roomN s) (xs ++ List.replicate j 0) k p s = some (pagesL s seg row (payL (padL xs N) k (roomN s)), 0) := by
  have hNl := row_lt hf
  intro d
  induction d with
  | zero =>
    intro j K hj hK
    obtain ⟨K, rfl⟩ : ∃ n, K = n + 1 := ⟨K - 1, by omega⟩
    unfold flintref9_Pages.l0
    rw [rrow_k (by omega) hf, hN]
    simp only [Option.bind_some]
    rw [List.length_append, List.length_replicate, if_neg (by omega)]
    have e : xs ++ List.replicate j (0 : Int) = padL xs N := by unfold padL; rw [show N - xs.length = j by omega]
    rw [e]
    exact rpages_l1 hf seg row hseg hrow (padL xs N) N hN (padL_len hx) (padL_bytes hb) k 0 K (by omega) (by have := hf.k2; omega)
  | succ d ih =>
    intro j K hj hK
    obtain ⟨K, rfl⟩ : ∃ n, K = n + 1 := ⟨K - 1, by omega⟩
    unfold flintref9_Pages.l0
    rw [rrow_k (by omega) hf, hN]
    simp only [Option.bind_some]
    rw [List.length_append, List.length_replicate, if_pos (by omega), if_pos (by omega), List.append_assoc, ← List.replicate_succ']
    exact ih (j + 1) K (by omega) (by omega)
end
end Go.Proofs.Ytjnicooboiijgaa.Sg
end

section
/-
  The reference's Pages, with its errors.
-/
set_option linter.unusedVariables false
set_option linter.unusedSimpArgs false
namespace Go.Proofs.Ytjnicooboiijgaa.Sg
open Go.RowKit Go.Proofs.YtjnicooboiijgaaW.PrintWords Go.Proofs.YtjnicooboiijgaaW.PrintLast Go.Proofs.YtjnicooboiijgaaW.PrintMore Go.Proofs.Ytjnicooboiijgaa.PSg Go.Proofs.Ytjnicooboiijgaa.Gf Go.Proofs.Ytjnicooboiijgaa.Rs
theorem rpages_j0 {K k p s : Nat} (hf : Fits k p s) (seg row : Nat) (hseg : seg < 18446744073709551616) (hrow : row ≤ 1073741824) (xs : List Int) (hx : xs.length ≤ k * roomN s) (hb : bytes xs = true) (hK : 7300000 < K) :
    flintref9_Pages.j0 K seg row xs false k p s = some (pagesL s seg row (payL (padL xs (k * roomN s)) k (roomN s)), 0) := by
  have hNl := row_lt hf
  obtain ⟨K, rfl⟩ : ∃ n, K = n + 1 := ⟨K - 1, by omega⟩
  have c1 : xs.length < 140737488355328 := by omega
  unfold flintref9_Pages.j0
  refine (if_neg (show ¬ (false = true) by simp)).trans ?_
  rw [rrow_k (by omega) hf, Option.bind_some]
  refine (if_neg (by omega)).trans ?_
  rw [rroom_k (by omega) hf.s1 hf.s2, Option.bind_some, Option.bind_some]
  refine (if_pos (by rw [List.length_nil, Nat.zero_add]; exact c1)).trans ?_
  have h := rpages_l0 hf seg row hseg hrow xs (k * roomN s) rfl hx hb (k * roomN s - xs.length) 0 K (by omega) (by omega)
  rw [List.replicate_zero, List.append_nil] at h
  rw [List.nil_append]
  exact h
theorem rpages_ok {K k p s : Nat} (hf : Fits k p s) (seg row : Nat) (hseg : seg < 18446744073709551616) (h1 : 1 ≤ row) (h2 : row < p) (xs : List Int) (hx : xs.length ≤ k * roomN s) (hb : bytes xs = true) (hK : 7300000 < K) :
    flintref9_Pages.f K k p s seg row xs = some (pagesL s seg row (payL (padL xs (k * roomN s)) k (roomN s)), 0) := by
  unfold flintref9_Pages.f
  rw [rcheck_k (by omega) hf, Option.bind_some, if_pos rfl, if_neg (by omega)]
  have hd : decide ((row : Int) ≥ (p : Int)) = false := decide_eq_false (by omega)
  rw [hd]
  exact rpages_j0 hf seg row hseg (by have := hf.p2; omega) xs hx hb hK
theorem rpages_true {K : Nat} (hK : 0 < K) (a b : Int) (xs : List Int) (x y z : Int) : flintref9_Pages.j0 K a b xs true x y z = some ([], 1) := by
  obtain ⟨K, rfl⟩ : ∃ n, K = n + 1 := ⟨K - 1, by omega⟩
  unfold flintref9_Pages.j0
  exact if_pos rfl
theorem rpages_row {K k p s : Nat} (hK : 0 < K) (hf : Fits k p s) (seg row : Int) (h : row < 1 ∨ (p : Int) ≤ row) (xs : List Int) : flintref9_Pages.f K k p s seg row xs = some ([], 1) := by
  unfold flintref9_Pages.f
  rw [rcheck_k hK hf, Option.bind_some, if_pos rfl]
  by_cases h1 : row < 1
  · rw [if_pos h1]; exact rpages_true hK _ _ _ _ _ _
  · rw [if_neg h1]
    have hd : decide (row ≥ (p : Int)) = true := decide_eq_true (by omega)
    rw [hd]
    exact rpages_true hK _ _ _ _ _ _
theorem rpages_long {K k p s : Nat} (hK : 2 < K) (hf : Fits k p s) (seg row : Int) (h1 : ¬ row < 1) (h2 : ¬ (p : Int) ≤ row) (xs : List Int) (hx : k * roomN s < xs.length) : flintref9_Pages.f K k p s seg row xs = some ([], 3) := by
  unfold flintref9_Pages.f
  rw [rcheck_k (by omega) hf, Option.bind_some, if_pos rfl, if_neg h1]
  have hd : decide (row ≥ (p : Int)) = false := decide_eq_false (by omega)
  rw [hd]
  obtain ⟨K, rfl⟩ : ∃ n, K = n + 1 := ⟨K - 1, by omega⟩
  unfold flintref9_Pages.j0
  refine (if_neg (show ¬ (false = true) by simp)).trans ?_
  rw [rrow_k (by omega) hf, Option.bind_some]
  exact if_pos (by omega)
theorem rpages33 (w : World) {k p s : Nat} (hf : Fits k p s) (seg row : Nat) (hseg : seg < 18446744073709551616) (h1 : 1 ≤ row) (h2 : row < p) (A : Option Addr) (n c : Nat) (xs : List Int) (hA : KB.C w A n xs) (hn : n ≤ c) (hx : n ≤ k * roomN s) (hb : bytes xs = true) :
    Calls Try.prog 33 #[.agg #[.int .i64 k, .int .i64 p, .int .i64 s], .int .u64 seg, .int .i64 row, .slice A n c] w fun e w' => ∃ v, e = .returned (.tuple #[v, .int .i64 0]) ∧ Kd.N (Kd.slice 5 (Kd.int .u8)) 37 w' w.heap.size (fun j => w.heap.size ≤ j) v (pagesL s seg row (payL (padL xs (k * roomN s)) k (roomN s))) ∧ Below w.heap.size w w' := by
  have hl : xs.length = n := Kd.C_len hA
  subst hl
  exact flintref9_Pages.calls 7300001 k p s seg row A c xs _ 0 w hA hn (rpages_ok hf seg row hseg h1 h2 xs hx hb (by omega))
end Go.Proofs.Ytjnicooboiijgaa.Sg
end
