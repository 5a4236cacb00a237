/-
  The reference's Rebuild, where at most two shards are missing: its walk.
-/
import Derived.Test.YtjolnjckgoilpaaMRh
set_option linter.unusedVariables false
set_option linter.unusedSimpArgs false
namespace Go.Proofs.Ytjolnjckgoilpaa.Rs
open Go.RowKit Go.Proofs.YtjolnjckgoilpaaW.PrintWords Go.Proofs.YtjolnjckgoilpaaW.PrintLast Go.Proofs.YtjolnjckgoilpaaW.PrintMore Go.Proofs.Ytjolnjckgoilpaa.PRa Go.Proofs.Ytjolnjckgoilpaa.Gf
theorem pres_len {l : List (List Int)} {n k : Nat} (hl : l.length = n) (hn : n = k + 2) (h : (missL l).length ≤ 2) : k ≤ (presN l n).length ∧ (presN l n).length ≤ n := by
  have h1 := miss_sel l n
  unfold missL at h
  rw [hl] at h
  unfold presN
  omega
theorem pres_at {l : List (List Int)} {n k i : Nat} (h : k ≤ (presN l n).length) (hi : i < k) : ∃ y, (selN l n k)[i]? = some y ∧ (presI l n)[i]? = some (y : Int) ∧ y < n ∧ pres l y ∧ byt (someL l n k) i = byt l y := by
  have h1 : i < (presN l n).length := by omega
  have h2 : (selN l n k)[i]? = some (presN l n)[i] := by
    show ((presN l n).take k)[i]? = _
    rw [List.getElem?_take_of_lt hi, List.getElem?_eq_getElem h1]
  have h3 : (presN l n)[i] ∈ selN l n k := List.mem_of_getElem? h2
  have h4 := selN_lt h3
  refine ⟨(presN l n)[i], h2, ?_, h4.1, h4.2, ?_⟩
  · unfold presI
    rw [List.getElem?_map, List.getElem?_eq_getElem h1]
    rfl
  · obtain ⟨h5, h6⟩ := List.getElem?_eq_some_iff.1 h2
    funext x
    unfold byt
    rw [some_row h5, h6]
theorem there34 (W : World) (A : Option Addr) (c : Nat) (l : List (List Int)) (n k m : Nat) (hA : KR.C W A n l) (hc : n ≤ c) (hl : l.length = n) (hn : n = k + 2) (hk2 : k ≤ 32) (hsz : sizesB 0 l = true) (hz : sizeL 0 l = m) :
    Calls Try.prog 34 #[.int .i64 k, .slice A n c] W fun e w' => ∃ v : Value, e = .returned (.tuple #[v, .int .i64 m, .int .i64 0]) ∧ Kd.R (Kd.int .i64) 3 w' W.heap.size (fun _ => True) v (presI l n) ∧ Below W.heap.size W w' := by
  have := flintref6_there.calls 2000 k A c l (presI l n) m 0 W (by rw [hl]; exact hA) (by omega) (by rw [there_ok 2000 k l (by omega) (by omega) (by omega), hsz, decide_eq_true (show l.length = k + 2 by omega), hz, hl]; rfl)
  rw [hl] at this
  exact this
theorem size_of {l : List (List Int)} {n k m : Nat} (hl : l.length = n) (hn : n = k + 2) (hk1 : 1 ≤ k) (h : (missL l).length ≤ 2) (hm : ∀ i, i < n → pres l i → (row l i).length = m) : sizeL 0 l = m := by
  refine sizeL_some m l 0 (.inl rfl) (fun x hx => ?_) (.inr ?_)
  · obtain ⟨i, hi, rfl⟩ := mem_row hx
    by_cases hp : pres l i
    · exact .inr (hm i (by omega) hp)
    · unfold pres at hp
      exact .inl (by omega)
  · have h1 := (pres_len hl hn h).1
    obtain ⟨y, _, _, h4, h5, _⟩ := pres_at h1 (show 0 < k by omega)
    refine ⟨row l y, ?_, hm y h4 h5⟩
    have : y < l.length := by omega
    have e : row l y = l[y] := by simp [row, List.getD, this]
    rw [e]
    exact List.getElem_mem this
def ref17.T27 : Bool × List (List Nat × List Nat) := (true, [([], []), ([], []), ([], []), ([], []), ([2, 3], [2, 3]), ([4], [4]), ([], []), ([], []), ([6, 7], [6, 7]), ([8], [8]), ([], []), ([9, 10], [9, 10]), ([11], [11]), ([], []), ([], []), ([], []), ([14, 15], [14, 15]), ([16], [16]), ([13, 17], [13, 17]), ([18], [18]), ([], []), ([19, 20], [19, 20]), ([21], [21]), ([12, 22], [12, 22]), ([5, 23], [5, 23]), ([0, 1, 0, 1, 2, 3, 4, 5, 6, 7, 8, 9, 10, 11, 12, 13, 14, 15, 16, 17, 18, 19, 20, 21, 22, 23, 24], [0, 1]), ([25, 24, 23, 0, 1, 2, 3, 4, 5, 6, 7, 8, 9, 10, 11, 12, 13, 14, 15, 16, 17, 18, 19, 20, 21, 22, 23, 24], [24, 25])])
def ref17.B27 : List Nat := [0, 0, 0, 0, 12, 28, 0, 0, 192, 448, 0, 1984, 4032, 0, 0, 0, 49152, 114688, 253952, 516096, 0, 2088960, 4186112, 8388544, 16777212, 33554431, 67108863]
theorem ref17.tab27 : rtab .any (opsOf Try.f17 27) = ref17.T27 := by kernel_rfl
theorem ref17.bits27 : waitsOk ref17.T27.2 ref17.B27 = true := by kernel_rfl
set_option maxHeartbeats 32000000 in
set_option maxRecDepth 100000 in
theorem ref17 (w : World) (k n m : Nat) (A : Option Addr) (c : Nat) (l : List (List Int)) (hA : KR.C w A n l) (hc : n ≤ c) (hk1 : 1 ≤ k) (hk2 : k ≤ 32) (hn : n = k + 2) (hm0 : 0 < m) (hm9 : m ≤ 1000000) (ok : okB l = true) (hm : ∀ i, i < n → pres l i → (row l i).length = m) (hsz : sizesB 0 l = true) (hlost : (missL l).length ≤ 2) (s : Nat → Nat → Nat) (hs8 : B8 s) (hinv : invF (partL l n k) = some (matrix k k fun i j => ((s i j : Nat) : Int), 0)) :
    Calls Try.prog 17 #[.int .i64 k, .slice A n c] w fun e w' => ∃ ob cap, e = .returned (.tuple #[.slice (some ⟨ob, 0, none⟩) n cap, .int .i64 0]) ∧ KR.C w' (some ⟨ob, 0, none⟩) n (outL s l n k m) ∧ n ≤ cap ∧ Below w.heap.size w w' := by
  have hl : l.length = n := Kd.C_len hA
  have HT := Aside0.mk (fun (W : World) (hW : Below w.heap.size w W) => there34 W A c l n k m (Kd.C_below hA hW) hc hl hn hk2 hsz (size_of hl hn hk1 hlost hm))
  have HU := Aside0.mk (fun (W : World) => flintref5_Unit.calls 400 (k : Int) (matrix k k kron) 0 W (by rw [GbFacts.unit_ok 400 _ (by omega)]; unfold unitF; rw [if_neg (by omega), if_neg (by omega)]; rfl))
  have HPa := Aside0.mk (fun (W : World) => flintref5_Pairs.calls 400 (k : Int) (pairsL k) 0 W (by rw [GbFacts.pairs_ok 400 _ (by omega)]; unfold gf_Pairs.f; rw [if_neg (by omega), if_neg (by omega)]; rfl))
  obtain ⟨hpk, hpn⟩ := pres_len hl hn hlost
  have HSEL := Aside0.mk (fun (i : Nat) (hi : i < k) => pres_at hpk hi)
  have HSL := Aside0.mk (selN_len hl hn hlost)
  have HPL := Aside0.mk (show (presI l n).length = (presN l n).length by unfold presI; rw [List.length_map])
  generalize (presN l n).length = p at hpk hpn HPL
  have HNK := Aside0.mk hn
  have HLL := Aside0.mk hl
  have HMM := Aside0.mk hm
  have HOK := Aside0.mk ok
  have HS8 := Aside0.mk hs8
  have HIV := Aside0.mk hinv
  have HPN := Aside0.mk hpn
  have HPK := Aside0.mk hpk
  have HCN := Aside0.mk hc
  have HM0 := Aside0.mk hm0
  obtain ⟨ad, _, _, eB, _⟩ := rows_at hA (i := 0) (by omega)
  subst eB
  have HA := Aside0.mk hA
  have hpz : decide ((p : Int) < (k : Int)) = false := decide_eq_false (by omega)
  have hpz2 : ¬ (p : Int) < (k : Int) := by omega
  have hpz3 : decide (p < k) = false := decide_eq_false (by omega)
  clear hA hc hn hm0 ok hm hsz hlost hs8 hinv hl hpk hpn
  go_enter Try.func17, Try.ntmps17
  go_wp2_with (first
    | (go_at_call 34; refine Calls.mono (HT.out _ (Below.refl _ _)) ?_; rintro e w1 ⟨v, rfl, hR, hb⟩
       obtain ⟨A1, c1, ev, _, hC⟩ := Kd.R_reads hR
       rw [HPL.out] at ev hC
       subst ev
       obtain ⟨td, eT, _⟩ := int_at hC (i := 0) (by have := HPK.out; omega) (List.getElem?_eq_getElem (by rw [HPL.out]; have := HPK.out; omega))
       subst eT
       have HT1 := Aside0.mk hC
       have HB1 := Aside0.mk hb
       clear hR hC hb HT)
    | (go_at_call 35; refine Calls.mono (HU.out _) ?_; rintro e w2 ⟨vU, rfl, hU, hb⟩
       obtain ⟨hsU, hU1, hU2, hU3⟩ := KH_of_R (Kd.S_R hU)
       have hlU : hsU.length = k := by rw [hU2]; simp [matrix]
       obtain ⟨AU, cU, evU, _⟩ := Kd.R_reads hU1
       rw [hlU] at evU
       subst evU
       have HU1 := Aside0.mk hU1
       have HU3 := Aside0.mk (OwnM.lower ⟨hU2, hU3⟩ HB1.out.size : OwnM w2 w.heap.size hsU (matrix k k kron))
       have HLU := Aside0.mk hlU
       have HB12 := Aside0.mk hb
       have HB2 := Aside0.mk (below_then HB1.out HB1.out.size hb)
       clear hU hU1 hU2 hU3 hlU hb HU)
    | (go_at_call 36; refine Calls.mono (HPa.out _) ?_; rintro e w3 ⟨vP, rfl, hU, hb⟩
       obtain ⟨hsP, hU1, hU2, hU3⟩ := KH_of_R (Kd.S_R hU)
       have hlP : hsP.length = 2 := by rw [hU2]; rfl
       obtain ⟨AP, cP, evU, _, hPC⟩ := Kd.R_reads hU1
       rw [hlP] at evU hPC
       subst evU
       have HP1 := Aside0.mk hPC
       have HP3 := Aside0.mk (OwnM.lower ⟨hU2, hU3⟩ HB2.out.size : OwnM w3 w.heap.size hsP (pairsL k))
       have HLP := Aside0.mk hlP
       have HU13 := Aside0.mk (Kd.R_below HU1.out hb)
       have HU33 := Aside0.mk (HU3.out.below hb)
       have HB13 := Aside0.mk (below_then HB12.out HB12.out.size hb)
       have HB3 := Aside0.mk (below_then HB2.out HB2.out.size hb)
       clear hU hU1 hU2 hU3 hlP hb hPC HU1 HU3 HB2 HB12 HPa)
    | ((with_reducible refine gate_builtin (b := .append) (xs := #[.tmp 48, .tmp 49]) rfl ?_); refine Kd.R_append_rows KH (w0 := w1) w1.heap.size rfl (.tmp 48) (.tmp 49) 22 25 (.slice none 0 0) 24 rfl Try.underlying22 Go.Proofs.Ytjolnjckgoilpaa.PRa.info25 rfl (by decide) (by omega) (.slice AU k cU) hsU hsP _ _ _ (fun _ => True) (fun _ => False) rfl rfl HU13.out HP1.out (fun _ _ h => h) (fun _ h => h.elim) (fun _ _ => trivial) HB13.out HB13.out.size (by rw [HLU.out]; omega) ?_
       intro v4 w4 ho hb hg hat
       have hAL : (hsU ++ hsP).length = k + 2 := by rw [List.length_append, HLU.out, HLP.out]
       have HRW := Aside0.mk ((HU33.out.over HU13.out hg).toRows.append (HP3.out.over HU13.out hg).toRows : Rows w4 (hsU ++ hsP) (allR k))
       generalize hsU ++ hsP = hsA at ho hAL HRW
       obtain ⟨vb, cV, ev, hab, _⟩ := Kd.R_form ho (by rw [hAL]; omega)
       rw [hAL] at ev
       subst ev
       obtain ⟨_, _, ev2, _, hKC⟩ := Kd.R_reads ho
       rw [hAL] at ev2 hKC
       injection ev2 with ev2 _ _
       subst ev2
       have HKA := Aside0.mk hKC
       have HB14 := Aside0.mk hb
       have HB4 := Aside0.mk (below_then HB1.out HB1.out.size hb)
       have HT4 := Aside0.mk (Kd.C_below HT1.out hb)
       have HLA := Aside0.mk hAL
       clear HU13 HU33 HP1 HP3 HB13 HB3 HLU HLP
       clear ho hb hg hat hab hKC hAL))
  clear HT1 HB14
  go_loopw [13, 14] (fun v iv W => ∃ (i : Nat), i ≤ k ∧ iv = .int .i64 i ∧ Aside0 (KH.R 25 W w4.heap.size (fun _ => True) v (((selN l n k).take i).map fun x => hsA.getD x (none, 0, 0))) ∧ Aside0 (Below w4.heap.size w4 W)) (fun _ iv _ => k - (intOf iv).toNat)
  case atStart => exact ⟨0, Nat.zero_le _, rfl, ⟨by rw [List.take_zero]; exact Kd.R_nil _ _ _ _ _⟩, ⟨Below.refl _ _⟩⟩
  case round =>
    obtain ⟨i, hi, rfl, HH, HB⟩ := hrel
    have hsl : ((selN l n k).take i).length = i := by rw [List.length_take, HSL.out]; omega
    by_cases hik : i < k
    · clear hi
      obtain ⟨y, hy1, hy2, hy3, hy4, _⟩ := HSEL.out i hik
      obtain ⟨td', eT, xt⟩ := int_at (Kd.C_below HT4.out HB.out) (show i < p by have := HPK.out; omega) hy2
      obtain rfl : td = td' := by injection eT
      obtain ⟨x, hx⟩ : ∃ x, hsA[y]? = some x := ⟨_, List.getElem?_eq_getElem (by rw [HLA.out]; have := HNK.out; omega)⟩
      have xh := KH_atA (Kd.C_below HKA.out HB.out) (show y < k + 2 by have := HNK.out; omega) hx
      rw [Addr.add_mid, Nat.zero_add] at xh
      have HTK := Aside0.mk (show ((selN l n k).take (i + 1)).map (fun x => hsA.getD x (none, 0, 0)) = ((selN l n k).take i).map (fun x => hsA.getD x (none, 0, 0)) ++ [x] by rw [List.take_add_one, hy1, List.map_append]; simp [List.getD, hx])
      have hii : decide ((i : Int) < (k : Int)) = true := decide_eq_true (by omega)
      have hi0 : (0 : Int) ≤ (i : Int) := by omega
      have hip : (i : Int) < (p : Int) := by have := HPK.out; omega
      have hy0 : (0 : Int) ≤ (y : Int) := by omega
      have hyk : (y : Int) < (k : Int) + 2 := by have := HNK.out; omega
      have HIK := Aside0.mk hik
      have HLT := Aside0.mk (show (((selN l n k).take i).map fun x => hsA.getD x (none, 0, 0)).length = i by rw [List.length_map, hsl])
      obtain ⟨xA, xn, xc⟩ := x
      dsimp only at xh
      clear hsl hy1 hy2 hy3 hy4 eT hx
      go_wp2_with (first
        | ((with_reducible refine gate_builtin (b := .append) (xs := #[.tmp 56, .tmp 64]) rfl ?_); refine Kd.R_append KH (w0 := w4) w4.heap.size rfl (.tmp 56) (.tmp 64) 22 25 (.slice none 0 0) 24 rfl Try.underlying22 Go.Proofs.Ytjolnjckgoilpaa.PRa.info25 rfl (by decide) (by omega) u13 (((selN l n k).take i).map fun x => hsA.getD x (none, 0, 0)) (xA, xn, xc) [.slice xA xn xc] (fun _ => True) (fun _ => False) rfl rfl rfl (fun _ hk => hk.elim) (fun _ _ => trivial) HH.out HB.out HB.out.size (by rw [HLT.out]; omega) ?_
           intro v7 w7 ho hb hg hat
           have HH7 := Aside0.mk ho
           have HB7 := Aside0.mk hb
           clear ho hb hg hat HH HB))
      go_roundw
      case measure => simp [intOf]; have := HIK.out; omega
      case rel => exact ⟨i + 1, HIK.out, by go_num, ⟨by rw [HTK.out]; exact HH7.out⟩, HB7⟩
    · obtain rfl : i = k := by omega
      have hii : decide ((i : Int) < (i : Int)) = false := decide_eq_false (by omega)
      have hto : (selN l n i).take i = selN l n i := List.take_of_length_le (by rw [HSL.out]; exact Nat.le_refl _)
      obtain ⟨AQ, cQ, ev, hleq, hCQ⟩ := Kd.R_reads HH.out
      rw [List.length_map, hto, HSL.out] at ev hleq
      rw [List.length_map, hto, HSL.out] at hCQ
      subst ev
      have hKQ : KR.C wr AQ i (partL l n i) := KR_of_KH hCQ ((HRW.out.below HB.out).pick (selN l n i) (fun x hx => by have := selN_lt hx; show x < (allR i).length; rw [allR_len]; have := HNK.out; omega))
      have HI := Aside0.mk (inv37_some wr (partL l n i) AQ cQ i (Kd.C_len hKQ) hKQ hleq s HIV.out)
      clear hsl hto hleq hCQ hKQ hi hik HH HIV HKA HRW HLA
      go_wp2_with (first
        | (go_at_call 37; refine Calls.mono HI.out ?_; rintro e w5 ⟨go, gco, bo, co, rfl, hG, hb⟩
           have HG5 := Aside0.mk hG
           have HB45 := Aside0.mk (below_then HB.out HB.out.size hb)
           have HB5 := Aside0.mk (below_then HB4.out HB4.out.size HB45.out)
           have HT5 := Aside0.mk (Kd.C_below HT4.out HB45.out)
           clear hG hb HB HI HB4 HT4 HB45))
      obtain ⟨HS8q⟩ := HS8
      have HS8 := Aside0.mk HS8q
      clear HS8q
      go_loopw [17, 18] (fun v jv W => ∃ (j : Nat) (hs : List Hd), j ≤ i ∧ jv = .int .i64 j ∧ Aside0 (KH.R 25 W w5.heap.size (fun _ => True) v hs) ∧ Aside0 (OwnM W w5.heap.size hs ((datL s l n i m).take j)) ∧ Aside0 (Below w5.heap.size w5 W)) (fun _ jv _ => i - (intOf jv).toNat)
      case atStart => exact ⟨0, [], Nat.zero_le _, rfl, ⟨Kd.R_nil _ _ _ _ _⟩, ⟨by rw [List.take_zero]; exact OwnM.nil _ _⟩, ⟨Below.refl _ _⟩⟩
      case round =>
        obtain ⟨j, hs, hj, rfl, HH, HO, HB⟩ := hrel
        have hhl : hs.length = j := by rw [HO.out.len, List.length_take, datL_len]; omega
        by_cases hjk : j < i
        · clear hj
          have hmk := make_row m hm9
          have hji : decide ((j : Int) < (i : Int)) = true := decide_eq_true (by omega)
          have hj0 : (0 : Int) ≤ (j : Int) := by omega
          have hj1 : (j : Int) < (i : Int) := by omega
          have HJ := Aside0.mk hjk
          have HHL := Aside0.mk hhl
          clear hjk hhl
          go_wp2_with fail
          have HZ := Aside0.mk (show RowAt (wr.alloc (.cells (byC m fun _ => 0) 5)) wr.heap.size m (tcol (s j) (someL l n i) 0) from heap_alloc_last _ _)
          have HB0 := Aside0.mk (below_alloc (Below.refl wr.heap.size wr) (.cells (byC m fun _ => 0) 5))
          clear hmk
          generalize wr.alloc (.cells (byC m fun _ => 0) 5) = wz at HZ HB0 ⊢
          obtain ⟨wj, hwj⟩ : ∃ wj, wj = wr := ⟨_, rfl⟩
          subst hwj
          obtain ⟨d, hd⟩ : ∃ d, wj.heap.size = d := ⟨_, rfl⟩
          have HD := Aside0.mk hd
          rw [hd] at HZ ⊢
          clear hd
          go_loopw [20] (fun iv W => ∃ (t : Nat), t ≤ i ∧ iv = .int .i64 t ∧ Aside0 (RowAt W d m (tcol (s j) (someL l n i) t)) ∧ Aside0 (Below wj.heap.size wj W)) (fun iv _ => i - (intOf iv).toNat)
          case atStart => exact ⟨0, Nat.zero_le _, rfl, HZ, HB0⟩
          case round =>
            clear HZ HB0
            clear wz
            obtain ⟨t, ht, rfl, HR, HBi⟩ := hrel
            by_cases hti : t < i
            · clear ht
              have HGw := Aside0.mk (HG5.out.below (below_then HB.out HB.out.size HBi.out))
              have xg := HGw.out.cell HJ.out
              have xe := (HGw.out.row j HJ.out).cell hti
              have HTI := Aside0.mk hti
              have hii : decide ((t : Int) < (i : Int)) = true := decide_eq_true (by omega)
              have ht0 : (0 : Int) ≤ (t : Int) := by omega
              have ht1 : (t : Int) < (i : Int) := by omega
              have HTS := Aside0.mk (tcol_succ (s j) (someL l n i) t)
              have he8 : s j t < 256 := HS8.out j t
              obtain ⟨e, he⟩ : ∃ e, s j t = e := ⟨_, rfl⟩
              rw [he] at xe HTS he8
              have HE := Aside0.mk he
              obtain ⟨y, _, hy2, hy3, hy4, hy5⟩ := HSEL.out t hti
              rw [hy5] at HTS
              obtain ⟨bj, hbj⟩ : ∃ bj, bo j = bj := ⟨_, rfl⟩
              obtain ⟨cj, hcj⟩ : ∃ cj, co j = cj := ⟨_, rfl⟩
              rw [hbj, hcj] at xg
              rw [hbj] at xe
              clear hti he hy5 HGw
              by_cases hez : e = 0
              · have hz : ((e : Int) == 0) = true := by rw [hez]; rfl
                have HR2 := Aside0.mk (HR.out.same (g := tcol (s j) (someL l n i) (t + 1)) (fun x _ => by rw [HTS.out x, hez, M0l _ (okB_at HOK.out y x).1, Nat.xor_zero]))
                clear hbj hcj hy2 hy3 hy4 hez HTS
                go_wp2_with fail
                go_roundw
                case measure => simp [intOf]; have := HTI.out; omega
                case rel => exact ⟨t + 1, HTI.out, by go_num, HR2, HBi⟩
              · have hz : ((e : Int) == 0) = false := beq_eq_false_iff_ne.mpr (by omega)
                have HEZ := Aside0.mk hez
                have HBJ := Aside0.mk hbj
                have HCJ := Aside0.mk hcj
                obtain ⟨ad', Ai, ci, eA, xh, hli, HI⟩ := rows_at HA.out (i := y) hy3
                obtain rfl : ad = ad' := by injection eA
                have hrl := HMM.out y hy3 hy4
                rw [hrl] at xh
                obtain ⟨ai, eAi, _⟩ := byte_at HI (j := 0) (by have := HM0.out; omega)
                subst eAi
                have HI := Aside0.mk HI
                have HXH := Aside0.mk xh
                have HRL := Aside0.mk hrl
                obtain ⟨td', eT, xt⟩ := int_at HT5.out (show t < p by have := HPK.out; have := HTI.out; omega) hy2
                obtain rfl : td = td' := by injection eT
                have HXT := Aside0.mk xt
                have HY3 := Aside0.mk hy3
                clear hbj hcj hy2 hy3 hy4 hez eA eT hli hrl xh xt
                go_wp2_with fail
                clear xg xe hii hji hj0 hj1
                go_loopw [21] (fun qv W => ∃ (q : Nat), q ≤ m ∧ qv = .int .i64 q ∧ Aside0 (RowAt W d m (fun x => if x < q then tcol (s j) (someL l n i) (t + 1) x else tcol (s j) (someL l n i) t x)) ∧ Aside0 (Below wj.heap.size wj W)) (fun qv _ => m - (intOf qv).toNat)
                case atStart => exact ⟨0, Nat.zero_le _, rfl, ⟨HR.out.same (fun x _ => by simp)⟩, HBi⟩
                case round =>
                  clear HR HBi
                  obtain ⟨q, hq, rfl, HR, HBi⟩ := hrel
                  by_cases hqm : q < m
                  · clear hq
                    have hcell := HR.out.cell hqm
                    rw [if_neg (Nat.lt_irrefl q)] at hcell
                    have hfr := HR.out.frozen q
                    have HBq := Aside0.mk (below_then HB.out HB.out.size HBi.out)
                    have HBw := Aside0.mk (below_then HB5.out HB5.out.size HBq.out)
                    have HGw := Aside0.mk (HG5.out.below HBq.out)
                    have xg := HGw.out.cell HJ.out
                    have xe := (HGw.out.row j HJ.out).cell HTI.out
                    have hej : s j t = e := HE.out
                    rw [HBJ.out, HCJ.out] at xg
                    rw [HBJ.out, hej] at xe
                    have xt := pw_cell_below HBq.out HXT.out
                    have xh := pw_cell_below HBw.out HXH.out
                    obtain ⟨ai', eI, xb⟩ := byte_at HI.out (j := q) (by rw [HRL.out]; exact hqm)
                    obtain rfl : ai = ai' := by injection eI
                    replace xb := pw_cell_below HBw.out xb
                    have hb := okB_at HOK.out y q
                    rw [hb.2] at xb
                    have HM := Aside0.mk (fun (W : World) => flintref5_Mul.calls 9 (e : Int) ((byt l y q : Nat) : Int) ((GfM.M e (byt l y q) : Nat) : Int) W (GaFacts.rmul_ok 9 e (byt l y q) (by omega) he8 hb.1))
                    have htl := tcol_lt (l := someL l n i) (HS8.out j) t q
                    have hxr : Go.bits .xor .u8 ((tcol (s j) (someL l n i) t q : Nat) : Int) ((GfM.M e (byt l y q) : Nat) : Int) = ((tcol (s j) (someL l n i) (t + 1) q : Nat) : Int) := by
                      rw [PRa.xor_nat _ _ htl (GfM.M_lt _ _ he8), HTS.out q]
                    have HR2 := Aside0.mk (fun (W : World) (hW : RowAt W d m (fun x => if x < q then tcol (s j) (someL l n i) (t + 1) x else tcol (s j) (someL l n i) t x)) => ((hW.set_ q (tcol (s j) (someL l n i) (t + 1) q)).same (fun x _ => by
                      by_cases e : x = q
                      · subst e; simp
                      · by_cases h : x < q
                        · rw [if_neg e, if_pos h, if_pos (by omega)]
                        · rw [if_neg e, if_neg h, if_neg (by omega)]) : RowAt (W.setCell ⟨d, q, none⟩ (.int .u8 ((tcol (s j) (someL l n i) (t + 1) q : Nat) : Int))) d m (fun x => if x < q + 1 then tcol (s j) (someL l n i) (t + 1) x else tcol (s j) (someL l n i) t x)))
                    have HQM := Aside0.mk hqm
                    have hqi : decide ((q : Int) < (m : Int)) = true := decide_eq_true (by omega)
                    have hq0 : (0 : Int) ≤ (q : Int) := by omega
                    have hq1 : (q : Int) < (m : Int) := by omega
                    have hj0 : (0 : Int) ≤ (j : Int) := by omega
                    have hj1 : (j : Int) < (i : Int) := by have := HJ.out; omega
                    have hy0 : (0 : Int) ≤ (y : Int) := by omega
                    have hy1 : (y : Int) < (n : Int) := by have := HY3.out; omega
                    have htp : (t : Int) < (p : Int) := by have := HPK.out; have := HTI.out; omega
                    clear hb eI HGw HBw hqm hej
                    generalize byt l y q = b at *
                    generalize GfM.M e b = me at *
                    generalize tcol (s j) (someL l n i) (t + 1) q = t2 at *
                    generalize tcol (s j) (someL l n i) t q = tt at *
                    go_wp2_with fail
                    refine start_ (n := 27) (S := fun w' => w'.cell? ⟨d, q, none⟩ = some (.int .u8 (tt : Int)) ∧ w'.cell? ⟨go, j, none⟩ = some (.slice (some ⟨bj, 0, none⟩) i cj) ∧ w'.cell? ⟨bj, t, none⟩ = some (.int .u8 (e : Int)) ∧ w'.cell? (td.add t) = some (.int .i64 (y : Int)) ∧ w'.cell? (ad.add y) = some (.slice (some ai) m ci) ∧ w'.cell? (ai.add q) = some (.int .u8 (b : Int))) (ds := [26]) #[false, false, false, false, false, false, false, false, false, false, false, false, false, false, false, false, false, false, false, false, false, false, false, false, false, false, false] (by kernel_rfl) rfl rfl ⟨hcell, xg, xe, xt, xh, xb⟩ (fun hHeld => ?_)
                    refine with_tabW ref17.tab27 ref17.bits27 (fun HT_ HW_ => ?_)
                    refine pure_ (i := 0) (N := some 96) (v := ?_) (a' := ?_) #[true, false, false, false, false, false, false, false, false, false, false, false, false, false, false, false, false, false, false, false, false, false, false, false, false, false, false] rfl rfl (any_of HT_.out (by kernel_rfl)) (fun _ _ _ h => h) (Or.inl ⟨by rfl, ?_⟩) ?_ ?_
                    rotate_left
                    · intro w'
                      go_simp
                      with_reducible rfl
                    rotate_left
                    · simp only [Act.put, List.setIfInBounds_toArray, List.set_cons_zero, List.set_cons_succ, i64_w, i32_w]
                      rfl
                    refine pure_ (i := 1) (N := some 97) (v := ?_) (a' := ?_) #[true, true, false, false, false, false, false, false, false, false, false, false, false, false, false, false, false, false, false, false, false, false, false, false, false, false, false] rfl rfl (any_of HT_.out (by kernel_rfl)) (fun _ _ _ h => h) (Or.inl ⟨by rfl, ?_⟩) ?_ ?_
                    rotate_left
                    · intro w'
                      go_simp
                      with_reducible rfl
                    rotate_left
                    · simp only [Act.put, List.setIfInBounds_toArray, List.set_cons_zero, List.set_cons_succ, i64_w, i32_w]
                      rfl
                    refine pure_ (i := 2) (N := some 98) (v := ?_) (a' := ?_) #[true, true, true, false, false, false, false, false, false, false, false, false, false, false, false, false, false, false, false, false, false, false, false, false, false, false, false] rfl rfl (any_of HT_.out (by kernel_rfl)) (fun _ _ _ h => h) (Or.inl ⟨by rfl, ?_⟩) ?_ ?_
                    rotate_left
                    · intro w'
                      go_simp
                      with_reducible rfl
                    rotate_left
                    · simp only [Act.put, List.setIfInBounds_toArray, List.set_cons_zero, List.set_cons_succ, i64_w, i32_w]
                      rfl
                    refine pure_ (i := 3) (N := some 99) (v := ?_) (a' := ?_) #[true, true, true, true, false, false, false, false, false, false, false, false, false, false, false, false, false, false, false, false, false, false, false, false, false, false, false] rfl rfl (any_of HT_.out (by kernel_rfl)) (fun _ _ _ h => h) (Or.inl ⟨by rfl, ?_⟩) ?_ ?_
                    rotate_left
                    · intro w'
                      go_simp
                      with_reducible rfl
                    rotate_left
                    · simp only [Act.put, List.setIfInBounds_toArray, List.set_cons_zero, List.set_cons_succ, i64_w, i32_w]
                      rfl
                    refine pure_ (i := 4) (N := some 100) (v := ?_) (a' := ?_) #[true, true, true, true, true, false, false, false, false, false, false, false, false, false, false, false, false, false, false, false, false, false, false, false, false, false, false] rfl rfl (any_of HT_.out (by kernel_rfl)) (fun _ _ _ h => h) (Or.inl ⟨by rfl, ?_⟩) ?_ ?_
                    rotate_left
                    · intro w'
                      go_simp
                      with_reducible rfl
                    rotate_left
                    · simp only [Act.put, List.setIfInBounds_toArray, List.set_cons_zero, List.set_cons_succ, i64_w, i32_w]
                      rfl
                    refine pure_ (i := 6) (N := some 102) (v := ?_) (a' := ?_) #[true, true, true, true, true, false, true, false, false, false, false, false, false, false, false, false, false, false, false, false, false, false, false, false, false, false, false] rfl rfl (any_of HT_.out (by kernel_rfl)) (fun _ _ _ h => h) (Or.inl ⟨by rfl, ?_⟩) ?_ ?_
                    rotate_left
                    · intro w'
                      go_simp
                      with_reducible rfl
                    rotate_left
                    · simp only [Act.put, List.setIfInBounds_toArray, List.set_cons_zero, List.set_cons_succ, i64_w, i32_w]
                      rfl
                    refine pure_ (i := 7) (N := some 103) (v := ?_) (a' := ?_) #[true, true, true, true, true, false, true, true, false, false, false, false, false, false, false, false, false, false, false, false, false, false, false, false, false, false, false] rfl rfl (any_of HT_.out (by kernel_rfl)) (fun _ _ _ h => h) (Or.inl ⟨by rfl, ?_⟩) ?_ ?_
                    rotate_left
                    · intro w'
                      go_simp
                      with_reducible rfl
                    rotate_left
                    · simp only [Act.put, List.setIfInBounds_toArray, List.set_cons_zero, List.set_cons_succ, i64_w, i32_w]
                      rfl
                    refine pure_ (i := 8) (N := some 104) (v := ?_) (a' := ?_) #[true, true, true, true, true, false, true, true, true, false, false, false, false, false, false, false, false, false, false, false, false, false, false, false, false, false, false] rfl rfl (any_of HT_.out (by kernel_rfl)) (fun _ _ _ h => h) (Or.inl ⟨by rfl, ?_⟩) ?_ ?_
                    rotate_left
                    · intro w'
                      go_simp
                      with_reducible rfl
                    rotate_left
                    · simp only [Act.put, List.setIfInBounds_toArray, List.set_cons_zero, List.set_cons_succ, i64_w, i32_w]
                      rfl
                    refine pure_ (i := 10) (N := some 106) (v := ?_) (a' := ?_) #[true, true, true, true, true, false, true, true, true, false, true, false, false, false, false, false, false, false, false, false, false, false, false, false, false, false, false] rfl rfl (any_of HT_.out (by kernel_rfl)) (fun _ _ _ h => h) (Or.inl ⟨by rfl, ?_⟩) ?_ ?_
                    rotate_left
                    · intro w'
                      go_simp
                      with_reducible rfl
                    rotate_left
                    · simp only [Act.put, List.setIfInBounds_toArray, List.set_cons_zero, List.set_cons_succ, i64_w, i32_w]
                      rfl
                    refine pure_ (i := 13) (N := some 109) (v := ?_) (a' := ?_) #[true, true, true, true, true, false, true, true, true, false, true, false, false, true, false, false, false, false, false, false, false, false, false, false, false, false, false] rfl rfl (any_of HT_.out (by kernel_rfl)) (fun _ _ _ h => h) (Or.inl ⟨by rfl, ?_⟩) ?_ ?_
                    rotate_left
                    · intro w'
                      go_simp
                      with_reducible rfl
                    rotate_left
                    · simp only [Act.put, List.setIfInBounds_toArray, List.set_cons_zero, List.set_cons_succ, i64_w, i32_w]
                      rfl
                    refine pure_ (i := 14) (N := some 110) (v := ?_) (a' := ?_) #[true, true, true, true, true, false, true, true, true, false, true, false, false, true, true, false, false, false, false, false, false, false, false, false, false, false, false] rfl rfl (any_of HT_.out (by kernel_rfl)) (fun _ _ _ h => h) (Or.inl ⟨by rfl, ?_⟩) ?_ ?_
                    rotate_left
                    · intro w'
                      go_simp
                      with_reducible rfl
                    rotate_left
                    · simp only [Act.put, List.setIfInBounds_toArray, List.set_cons_zero, List.set_cons_succ, i64_w, i32_w]
                      rfl
                    refine pure_ (i := 15) (N := some 111) (v := ?_) (a' := ?_) #[true, true, true, true, true, false, true, true, true, false, true, false, false, true, true, true, false, false, false, false, false, false, false, false, false, false, false] rfl rfl (any_of HT_.out (by kernel_rfl)) (fun _ _ _ h => h) (Or.inl ⟨by rfl, ?_⟩) ?_ ?_
                    rotate_left
                    · intro w'
                      go_simp
                      with_reducible rfl
                    rotate_left
                    · simp only [Act.put, List.setIfInBounds_toArray, List.set_cons_zero, List.set_cons_succ, i64_w, i32_w]
                      rfl
                    refine pure_ (i := 16) (N := some 112) (v := ?_) (a' := ?_) #[true, true, true, true, true, false, true, true, true, false, true, false, false, true, true, true, true, false, false, false, false, false, false, false, false, false, false] rfl rfl (any_of HT_.out (by kernel_rfl)) (fun _ _ _ h => h) (Or.inl ⟨by rfl, ?_⟩) ?_ ?_
                    rotate_left
                    · intro w'
                      go_simp
                      with_reducible rfl
                    rotate_left
                    · simp only [Act.put, List.setIfInBounds_toArray, List.set_cons_zero, List.set_cons_succ, i64_w, i32_w]
                      rfl
                    refine pure_ (i := 20) (N := some 116) (v := ?_) (a' := ?_) #[true, true, true, true, true, false, true, true, true, false, true, false, false, true, true, true, true, false, false, false, true, false, false, false, false, false, false] rfl rfl (any_of HT_.out (by kernel_rfl)) (fun _ _ _ h => h) (Or.inl ⟨by rfl, ?_⟩) ?_ ?_
                    rotate_left
                    · intro w'
                      go_simp
                      with_reducible rfl
                    rotate_left
                    · simp only [Act.put, List.setIfInBounds_toArray, List.set_cons_zero, List.set_cons_succ, i64_w, i32_w]
                      rfl
                    refine take_ (i := 5) (N := some 101) (v := ?_) (a' := ?_) #[true, true, true, true, true, true, true, true, true, false, true, false, false, true, true, true, true, false, false, false, true, false, false, false, false, false, false] rfl rfl (take_ofW HT_.out HW_.out (by kernel_rfl)) (fun _ _ _ h => h) (Or.inl ⟨by rfl, ?_⟩) hHeld ?_ ?_
                    rotate_left
                    · rintro w' ⟨s0, s1, s2, s3, s4, s5⟩
                      go_simp
                      with_reducible rfl
                    rotate_left
                    · simp only [Act.put, List.setIfInBounds_toArray, List.set_cons_zero, List.set_cons_succ, i64_w, i32_w]
                      rfl
                    refine take_ (i := 9) (N := some 105) (v := ?_) (a' := ?_) #[true, true, true, true, true, true, true, true, true, true, true, false, false, true, true, true, true, false, false, false, true, false, false, false, false, false, false] rfl rfl (take_ofW HT_.out HW_.out (by kernel_rfl)) (fun _ _ _ h => h) (Or.inl ⟨by rfl, ?_⟩) hHeld ?_ ?_
                    rotate_left
                    · rintro w' ⟨s0, s1, s2, s3, s4, s5⟩
                      go_simp
                      with_reducible rfl
                    rotate_left
                    · simp only [Act.put, List.setIfInBounds_toArray, List.set_cons_zero, List.set_cons_succ, i64_w, i32_w]
                      rfl
                    refine pure_ (i := 11) (N := some 107) (v := ?_) (a' := ?_) #[true, true, true, true, true, true, true, true, true, true, true, true, false, true, true, true, true, false, false, false, true, false, false, false, false, false, false] rfl rfl (any_of HT_.out (by kernel_rfl)) (fun _ _ _ h => h) (Or.inl ⟨by rfl, ?_⟩) ?_ ?_
                    rotate_left
                    · intro w'
                      go_simp
                      with_reducible rfl
                    rotate_left
                    · simp only [Act.put, List.setIfInBounds_toArray, List.set_cons_zero, List.set_cons_succ, i64_w, i32_w]
                      rfl
                    refine take_ (i := 12) (N := some 108) (v := ?_) (a' := ?_) #[true, true, true, true, true, true, true, true, true, true, true, true, true, true, true, true, true, false, false, false, true, false, false, false, false, false, false] rfl rfl (take_ofW HT_.out HW_.out (by kernel_rfl)) (fun _ _ _ h => h) (Or.inl ⟨by rfl, ?_⟩) hHeld ?_ ?_
                    rotate_left
                    · rintro w' ⟨s0, s1, s2, s3, s4, s5⟩
                      go_simp
                      with_reducible rfl
                    rotate_left
                    · simp only [Act.put, List.setIfInBounds_toArray, List.set_cons_zero, List.set_cons_succ, i64_w, i32_w]
                      rfl
                    refine take_ (i := 17) (N := some 113) (v := ?_) (a' := ?_) #[true, true, true, true, true, true, true, true, true, true, true, true, true, true, true, true, true, true, false, false, true, false, false, false, false, false, false] rfl rfl (take_ofW HT_.out HW_.out (by kernel_rfl)) (fun _ _ _ h => h) (Or.inl ⟨by rfl, ?_⟩) hHeld ?_ ?_
                    rotate_left
                    · rintro w' ⟨s0, s1, s2, s3, s4, s5⟩
                      go_simp
                      with_reducible rfl
                    rotate_left
                    · simp only [Act.put, List.setIfInBounds_toArray, List.set_cons_zero, List.set_cons_succ, i64_w, i32_w]
                      rfl
                    refine pure_ (i := 18) (N := some 114) (v := ?_) (a' := ?_) #[true, true, true, true, true, true, true, true, true, true, true, true, true, true, true, true, true, true, true, false, true, false, false, false, false, false, false] rfl rfl (any_of HT_.out (by kernel_rfl)) (fun _ _ _ h => h) (Or.inl ⟨by rfl, ?_⟩) ?_ ?_
                    rotate_left
                    · intro w'
                      go_simp
                      with_reducible rfl
                    rotate_left
                    · simp only [Act.put, List.setIfInBounds_toArray, List.set_cons_zero, List.set_cons_succ, i64_w, i32_w]
                      rfl
                    refine take_ (i := 19) (N := some 115) (v := ?_) (a' := ?_) #[true, true, true, true, true, true, true, true, true, true, true, true, true, true, true, true, true, true, true, true, true, false, false, false, false, false, false] rfl rfl (take_ofW HT_.out HW_.out (by kernel_rfl)) (fun _ _ _ h => h) (Or.inl ⟨by rfl, ?_⟩) hHeld ?_ ?_
                    rotate_left
                    · rintro w' ⟨s0, s1, s2, s3, s4, s5⟩
                      go_simp
                      with_reducible rfl
                    rotate_left
                    · simp only [Act.put, List.setIfInBounds_toArray, List.set_cons_zero, List.set_cons_succ, i64_w, i32_w]
                      rfl
                    refine pure_ (i := 21) (N := some 117) (v := ?_) (a' := ?_) #[true, true, true, true, true, true, true, true, true, true, true, true, true, true, true, true, true, true, true, true, true, true, false, false, false, false, false] rfl rfl (any_of HT_.out (by kernel_rfl)) (fun _ _ _ h => h) (Or.inl ⟨by rfl, ?_⟩) ?_ ?_
                    rotate_left
                    · intro w'
                      go_simp
                      with_reducible rfl
                    rotate_left
                    · simp only [Act.put, List.setIfInBounds_toArray, List.set_cons_zero, List.set_cons_succ, i64_w, i32_w]
                      rfl
                    refine take_ (i := 22) (N := some 118) (v := ?_) (a' := ?_) #[true, true, true, true, true, true, true, true, true, true, true, true, true, true, true, true, true, true, true, true, true, true, true, false, false, false, false] rfl rfl (take_ofW HT_.out HW_.out (by kernel_rfl)) (fun _ _ _ h => h) (Or.inl ⟨by rfl, ?_⟩) hHeld ?_ ?_
                    rotate_left
                    · rintro w' ⟨s0, s1, s2, s3, s4, s5⟩
                      go_simp
                      with_reducible rfl
                    rotate_left
                    · simp only [Act.put, List.setIfInBounds_toArray, List.set_cons_zero, List.set_cons_succ, i64_w, i32_w]
                      rfl
                    refine one_ (i := 23) (N := some 119) #[true, true, true, true, true, true, true, true, true, true, true, true, true, true, true, true, true, true, true, true, true, true, true, true, false, false, false] rfl rfl (one_of HT_.out (by kernel_rfl)) (by decide) (fun K hK => ?_)
                    refine goes_ Try.func38 (by kernel_rfl) rfl #[.int .u8 (e : Int), .int .u8 (b : Int)] (by rfl) rfl rfl (by simp only [List.map_toArray, List.map_cons, List.map_nil]; rfl) ?_
                    refine Calls.mono (HM.out _) ?_
                    rintro e w2 ⟨rfl, ⟨nd, rfl⟩⟩
                    refine ⟨_, rfl, ?_⟩
                    refine hK.out _ _ ⟨hcell, xg, xe, xt, xh, xb⟩ (fun hHeld => ?_)
                    clear hK K
                    refine norm_ (a' := ?_) ?_ ?_
                    rotate_left
                    · show Act.put _ (some 119) _ = _
                      simp only [Act.put, List.setIfInBounds_toArray, List.set_cons_zero, List.set_cons_succ, i64_w, i32_w]
                      rfl
                    refine pure_ (i := 24) (N := some 120) (v := ?_) (a' := ?_) #[true, true, true, true, true, true, true, true, true, true, true, true, true, true, true, true, true, true, true, true, true, true, true, true, true, false, false] rfl rfl (any_of HT_.out (by kernel_rfl)) (fun _ _ _ h => h) (Or.inl ⟨by rfl, ?_⟩) ?_ ?_
                    rotate_left
                    · intro w'
                      go_simp
                      with_reducible rfl
                    rotate_left
                    · simp only [Act.put, List.setIfInBounds_toArray, List.set_cons_zero, List.set_cons_succ, i64_w, i32_w]
                      rfl
                    refine pure_ (i := 25) (N := some 121) (v := ?_) (a' := ?_) #[true, true, true, true, true, true, true, true, true, true, true, true, true, true, true, true, true, true, true, true, true, true, true, true, true, true, false] rfl rfl (any_of HT_.out (by kernel_rfl)) (fun _ _ _ h => h) (Or.inl ⟨by rfl, ?_⟩) ?_ ?_
                    rotate_left
                    · intro w'
                      go_simp
                      with_reducible rfl
                    rotate_left
                    · simp only [Act.put, List.setIfInBounds_toArray, List.set_cons_zero, List.set_cons_succ, i64_w, i32_w]
                      rfl
                    refine last_ (i := 26) (N := none) #[true, true, true, true, true, true, true, true, true, true, true, true, true, true, true, true, true, true, true, true, true, true, true, true, true, true, true] rfl rfl (one_of HT_.out (by kernel_rfl)) (by decide) (fun K hK => ?_)
                    refine skip_ (w1 := ?_) (by rfl) rfl ?_ ?_
                    rotate_left
                    · go_simp
                      rfl
                    refine hK.out _ _ ?_
                    clear hK K
                    refine done_ (done_of HT_.out (by kernel_rfl)) ?_
                    go_wp2_with fail
                    go_roundw
                    case measure => simp [intOf]; have := HQM.out; omega
                    case rel => exact ⟨q + 1, HQM.out, by have := HQM.out; go_num, ⟨HR2.out _ HR.out⟩, ⟨below_set (pw_below_drewN HBi.out _) (by rw [HD.out]; exact Nat.le_refl _)⟩⟩
                  · obtain rfl : q = m := by omega
                    have hqi : decide ((q : Int) < (q : Int)) = false := decide_eq_false (by omega)
                    have HR3 := Aside0.mk (HR.out.same (g := tcol (s j) (someL l n i) (t + 1)) (fun x hx => by rw [if_pos hx]))
                    clear HR
                    go_wp2_with fail
                    go_roundw
                    case measure => simp [intOf]; have := HTI.out; omega
                    case rel => exact ⟨t + 1, HTI.out, by go_num, HR3, HBi⟩
            · obtain rfl : t = i := by omega
              have hii : decide ((t : Int) < (t : Int)) = false := decide_eq_false (by omega)
              have HRR := Aside0.mk (rowAt_R (base := w5.heap.size) (ok := fun _ => True) HR.out (by rw [← HD.out]; exact HB.out.size) (by omega) trivial)
              have HBj := Aside0.mk (below_then HB.out HB.out.size HBi.out)
              have HHj := Aside0.mk (Kd.R_below HH.out HBi.out)
              have HOj := Aside0.mk (HO.out.below HBi.out)
              clear ht hti HR HBi HH HO HB
              go_wp2_with (first
                | ((with_reducible refine gate_builtin (b := .append) (xs := #[.tmp 122, .tmp 124]) rfl ?_); refine Kd.R_append KH (w0 := w5) w5.heap.size rfl (.tmp 122) (.tmp 124) 22 25 (.slice none 0 0) 24 rfl Try.underlying22 Go.Proofs.Ytjolnjckgoilpaa.PRa.info25 rfl (by decide) (by omega) u17 hs (some ⟨d, 0, none⟩, m, m) [.slice (some ⟨d, 0, none⟩) m m] (fun _ => True) (fun _ => False) rfl rfl rfl (fun _ hk => hk.elim) (fun _ _ => trivial) HHj.out HBj.out HBj.out.size (by rw [HHL.out]; have := HJ.out; omega) ?_
                   intro v7 w7 ho hb hg hat
                   have HO7 := Aside0.mk ((HOj.out.snoc (x := rowL m (tcol (s j) (someL l n t) t)) (c := m) (A := some ⟨d, 0, none⟩) (by rw [rowL_length]; exact Nat.le_refl _) (by rw [rowL_length]; exact HRR.out)).over HHj.out hg)
                   have HH7 := Aside0.mk ho
                   have HB7 := Aside0.mk hb
                   clear ho hb hg hat HHj HOj HBj))
              go_roundw
              case measure => simp [intOf]; have := HJ.out; omega
              case rel => exact ⟨j + 1, _, HJ.out, by go_num, HH7, ⟨by rw [datL_take HJ.out]; have := HO7.out; rw [rowL_length] at this; exact this⟩, HB7⟩
        · obtain rfl : j = i := by omega
          have hji : decide ((j : Int) < (j : Int)) = false := decide_eq_false (by omega)
          have htd : (datL s l n j m).take j = datL s l n j m := List.take_of_length_le (by rw [datL_len]; exact Nat.le_refl _)
          rw [htd] at HO
          obtain ⟨db, cD, ev, hdb, _⟩ := Kd.R_form HH.out (by rw [hhl]; omega)
          rw [hhl] at ev
          subst ev
          have hkd := KH_len2 HH.out hhl
          obtain ⟨cl, hcl⟩ := Kd.R_typed HH.out db rfl
          have hdl : db < wr.heap.size := heap_lt hcl
          have HPar := Aside0.mk (flintref6_parity.calls 100000000 (some ⟨db, 0, none⟩) cD (datL s l n j m) _ wr (by rw [datL_len]; exact KR_of_KH hkd.1 HO.out.toRows) (by rw [datL_len]; exact hkd.2) (parity_ok 100000000 (datL s l n j m) j m datL_len (datL_ok HS8.out) (fun q hq => by rw [datL_row hq, rowL_length]) hk1 (by omega) hm9 (by have : m * (j + 30) ≤ 1000000 * 62 := Nat.mul_le_mul hm9 (by omega); omega)))
          rw [datL_len] at HPar
          have HDL := Aside0.mk hdl
          have HHL := Aside0.mk hhl
          clear htd hdb hkd hdl hhl hj hjk hcl
          go_wp2_with (first
            | (go_at_call 33; refine Calls.mono HPar.out ?_; rintro e w6 ⟨vT, rfl, hN, hb⟩
               obtain ⟨AT, cT, evT, hleT, hF⟩ := Kd.N_V (base' := 0) hN
               subst evT
               obtain ⟨hsT, hT1, hT2, hT3⟩ := hdr_F hF
               have HT1 := Aside0.mk hT1
               have HT2 := Aside0.mk hT2
               have HT3 := Aside0.mk hT3
               have HH6 := Aside0.mk (Kd.R_below HH.out hb)
               have HO6 := Aside0.mk (HO.out.below hb)
               have HB6 := Aside0.mk (below_then HB.out HB.out.size hb)
               clear hN hb hleT hF hT1 hT2 hT3 HH HO HB HPar)
            | ((with_reducible refine gate_builtin (b := .append) (xs := #[.tmp 126, .tmp 128]) rfl ?_); refine Kd.R_append_rows KH (w0 := w5) w5.heap.size rfl (.tmp 126) (.tmp 128) 22 25 (.slice none 0 0) 24 rfl Try.underlying22 Go.Proofs.Ytjolnjckgoilpaa.PRa.info25 rfl (by decide) (by omega) (.slice (some ⟨db, 0, none⟩) j cD) hs hsT _ _ _ (fun _ => True) (fun _ => False) rfl rfl HH6.out HT1.out (fun _ _ h => h) (fun _ h => h.elim) (fun _ _ => trivial) HB6.out HB6.out.size (by rw [HHL.out]; omega) ?_
               intro v8 w8 ho hb hg hat
               have hTr : Rows w8 hsT [rowL m (tcol (rho 0) (datL s l n j m) j), rowL m (tcol (rho 1) (datL s l n j m) j)] := ⟨HT2.out, fun i x hx => ⟨(HT3.out i x hx).1, (HT3.out i x hx).2.1, Kd.F_now (Kd.F_grown (HT3.out i x hx).2.2 hg (fun q hq e => by have := HDL.out; simp only [Value.ownBlock, Option.some.injEq] at e; omega))⟩⟩
               have HRW := Aside0.mk ((HO6.out.over HH6.out hg).toRows.append hTr : Rows w8 (hs ++ hsT) (allL (datL s l n j m) j m))
               have hAL : (hs ++ hsT).length = j + 2 := by rw [List.length_append, HHL.out, HT2.out]; rfl
               generalize hs ++ hsT = hsE at ho hAL HRW
               obtain ⟨eb, cE, ev, hab, _⟩ := Kd.R_form ho (by rw [hAL]; omega)
               rw [hAL] at ev
               subst ev
               have HE8 := Aside0.mk (KH_len2 ho hAL).1
               have HB58 := Aside0.mk hb
               have HEL := Aside0.mk hAL
               clear ho hb hg hat hTr hab hAL HH6 HO6 HB6 HT1 HT2 HT3))
          have HB8 := Aside0.mk (below_then HB5.out HB5.out.size HB58.out)
          clear hji HHL HDL HG5 HT5 HB58 HB5
          go_loopw [22, 23] (fun v qv W => ∃ (q : Nat) (hsO : List Hd), q ≤ n ∧ qv = .int .i64 q ∧ Aside0 (KH.R 25 W w8.heap.size (fun _ => True) v hsO) ∧ Aside0 (OutM w8 W w8.heap.size hsO ((outL s l n j m).take q)) ∧ Aside0 (Below w8.heap.size w8 W)) (fun _ qv _ => n - (intOf qv).toNat)
          case atStart => exact ⟨0, [], Nat.zero_le _, rfl, ⟨Kd.R_nil _ _ _ _ _⟩, ⟨by rw [List.take_zero]; exact OutM.nil _ _ _⟩, ⟨Below.refl _ _⟩⟩
          case round =>
            obtain ⟨q, hsO, hq, rfl, HH, HO, HB⟩ := hrel
            have hhl : hsO.length = q := by rw [HO.out.len, List.length_take, outL_len]; omega
            have HHL := Aside0.mk hhl
            have hn34 : n ≤ 34 := by have := HNK.out; omega
            by_cases hqn : q < n
            · have HBw := Aside0.mk (below_then HB8.out HB8.out.size HB.out)
              obtain ⟨ad', Ai, ci, eA, xh, hli, HI⟩ := rows_at HA.out (i := q) hqn
              obtain rfl : ad = ad' := by injection eA
              obtain ⟨li, hli2⟩ : ∃ li, (row l q).length = li := ⟨_, rfl⟩
              have HLI := Aside0.mk hli2
              rw [hli2] at xh HI hli
              replace xh := pw_cell_below HBw.out xh
              have HI := Aside0.mk HI
              have HQN := Aside0.mk hqn
              have HTK := Aside0.mk (outL_take (s := s) (l := l) (k := j) (m := m) hqn)
              have hqi : decide ((q : Int) < (n : Int)) = true := decide_eq_true (by omega)
              have hq0 : (0 : Int) ≤ (q : Int) := by omega
              have hq1 : (q : Int) < (n : Int) := by omega
              by_cases hp : pres l q
              · have hl0 : 0 < li := by unfold pres at hp; omega
                rw [if_pos hp] at HTK
                have HL9 := Aside0.mk (show li ≤ 1000000 by have := HMM.out q hqn hp; omega)
                have HS0 := Aside0.mk (rowAt_R (w := wr.alloc (.cells #[] 5)) (d := wr.heap.size) (c := 0) (base := w8.heap.size) (f := fun _ => 0) (ok := fun _ => True) (heap_alloc_last _ _) HB.out.size (by omega) trivial)
                have HBa := Aside0.mk (below_alloc HB.out (.cells #[] 5))
                have xh2 := pw_cell_below (below_alloc (Below.refl wr.heap.size wr) (.cells #[] 5)) xh
                have HIa := Aside0.mk (Kd.C_below (Kd.C_below HI.out HBw.out) (below_alloc (Below.refl wr.heap.size wr) (.cells #[] 5)))
                clear hp hq hli2 hli hhl hqn eA
                go_wp2_with (first
                  | ((with_reducible refine gate_builtin (b := .append) (xs := #[.tmp 143, .tmp 147]) rfl ?_); refine Kd.R_append_rows KB (w0 := w8) w8.heap.size rfl (.tmp 143) (.tmp 147) 25 5 (.int .u8 0) 1 rfl Try.underlying25 Go.Proofs.Ytjolnjckgoilpaa.PRa.info5 rfl (by decide) (by omega) (.slice (some ⟨wr.heap.size, 0, none⟩) 0 0) [] (row l q) _ _ _ (fun _ => True) (fun _ => False) rfl rfl HS0.out HIa.out (fun _ _ h => h) (fun _ h => h.elim) (fun _ _ => trivial) HBa.out HBa.out.size (by have := HL9.out; have := HLI.out; simp; omega) ?_
                     intro v1 w6 ho hb hg hat
                     rw [List.nil_append] at ho
                     obtain ⟨A1, c1, ev, hle, _⟩ := Kd.R_reads ho
                     subst ev
                     have hgB : (wr.alloc (.cells #[] 5)).grownBy w6 (some wr.heap.size) := hg
                     have HLE := Aside0.mk hle
                     have HR6 := Aside0.mk ho
                     have HH6 := Aside0.mk (Kd.R_grown (ok := fun k => True ∧ k ≠ wr.heap.size) (Kd.R_alloc (Kd.R_elderB HH.out wr.heap.size (Nat.le_refl _)) (.cells #[] 5)) hgB (fun k hk e => hk.2 (by injection e)))
                     have HO6 := Aside0.mk (HO.out.grown hgB)
                     have HB56 := Aside0.mk hb
                     clear ho hb hg hat hle hgB HS0 HBa HH HO HB)
                  | ((with_reducible refine gate_builtin (b := .append) (xs := #[.tmp 142, .tmp 149]) rfl ?_); refine Kd.R_append KH (w0 := w8) w8.heap.size rfl (.tmp 142) (.tmp 149) 22 25 (.slice none 0 0) 24 rfl Try.underlying22 Go.Proofs.Ytjolnjckgoilpaa.PRa.info25 rfl (by decide) (by omega) u22 hsO (A1, (row l q).length, c1) [.slice A1 (row l q).length c1] (fun _ => True) (fun _ => False) rfl rfl rfl (fun _ hk => hk.elim) (fun _ _ => trivial) (Kd.R_mono HH6.out (fun _ _ => trivial)) HB56.out HB56.out.size (by rw [HHL.out]; have := HQN.out; omega) ?_
                     intro v2 w7 ho hb hg hat
                     have HO7 := Aside0.mk ((HO6.out.snoc (y := (A1, (row l q).length, c1)) (x := row l q) rfl HLE.out (.inl HR6.out)).over HH6.out hg)
                     have HB7 := Aside0.mk hb
                     have HH7 := Aside0.mk ho
                     clear ho hb hg hat HH6 HO6 HB56))
                go_roundw
                case measure => simp [intOf]; have := HQN.out; omega
                case rel => exact ⟨q + 1, _, HQN.out, by go_num, HH7, ⟨by rw [HTK.out]; exact HO7.out⟩, HB7⟩
              · have hl0 : ¬ 0 < li := by unfold pres at hp; omega
                rw [if_neg hp] at HTK
                obtain ⟨x, hx⟩ : ∃ x, hsE[q]? = some x := ⟨_, List.getElem?_eq_getElem (by rw [HEL.out]; have := HNK.out; omega)⟩
                have xe := KH_atA (Kd.C_below HE8.out HB.out) (show q < j + 2 by have := HNK.out; omega) hx
                rw [Addr.add_mid, Nat.zero_add] at xe
                have HX := Aside0.mk (HRW.out.2 q x hx)
                have hqk : (q : Int) < (j : Int) + 2 := by have := HNK.out; omega
                obtain ⟨xA, xn, xc⟩ := x
                dsimp only at xe
                clear hp hq hli2 hli hhl hqn eA hx
                go_wp2_with (first
                  | ((with_reducible refine gate_builtin (b := .append) (xs := #[.tmp 151, .tmp 156]) rfl ?_); refine Kd.R_append KH (w0 := w8) w8.heap.size rfl (.tmp 151) (.tmp 156) 22 25 (.slice none 0 0) 24 rfl Try.underlying22 Go.Proofs.Ytjolnjckgoilpaa.PRa.info25 rfl (by decide) (by omega) u22 hsO (xA, xn, xc) [.slice xA xn xc] (fun _ => True) (fun _ => False) rfl rfl rfl (fun _ hk => hk.elim) (fun _ _ => trivial) HH.out HB.out HB.out.size (by rw [HHL.out]; have := HQN.out; omega) ?_
                     intro v2 w7 ho hb hg hat
                     have HO7 := Aside0.mk ((HO.out.snoc (y := (xA, xn, xc)) (x := row (allL (datL s l n j m) j m) q) HX.out.1 HX.out.2.1 (.inr HX.out.2.2)).over HH.out hg)
                     have HB7 := Aside0.mk hb
                     have HH7 := Aside0.mk ho
                     clear ho hb hg hat HH HO HB))
                go_roundw
                case measure => simp [intOf]; have := HQN.out; omega
                case rel => exact ⟨q + 1, _, HQN.out, by go_num, HH7, ⟨by rw [HTK.out]; exact HO7.out⟩, HB7⟩
            · obtain rfl : q = n := by omega
              have hqi : decide ((q : Int) < (q : Int)) = false := decide_eq_false (by omega)
              have hto : (outL s l q j m).take q = outL s l q j m := List.take_of_length_le (by rw [outL_len]; exact Nat.le_refl _)
              rw [hto] at HO
              obtain ⟨ob, cO, ev, _, _⟩ := Kd.R_form HH.out (by rw [hhl]; have := HNK.out; omega)
              rw [hhl] at ev
              subst ev
              have hk9 := KH_len2 HH.out hhl
              have HR9 := Aside0.mk (KR_of_KH hk9.1 (HO.out.toRows HB.out))
              have HL9 := Aside0.mk hk9.2
              have HB9 := Aside0.mk (below_then HB8.out HB8.out.size HB.out)
              clear hto hk9 hhl hq hqn
              go_wp2_with fail
              go_ret2
              exact ⟨ob, cO, rfl, HR9.out, HL9.out, HB9.out⟩
end Go.Proofs.Ytjolnjckgoilpaa.Rs
