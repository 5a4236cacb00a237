/-
  The walk of the law ShaOwn.
-/
import Derived.Test.YtcagmiglgpjcjaaShaSs
set_option linter.unusedVariables false
set_option linter.unusedSimpArgs false
namespace Go.Proofs.Ytcagmiglgpjcjaa.Sh
open Go.RowKit Go.Proofs.YtcagmiglgpjcjaaW.PrintWords Go.Proofs.YtcagmiglgpjcjaaW.PrintLast Go.Proofs.YtcagmiglgpjcjaaW.PrintMore Go.Proofs.Ytcagmiglgpjcjaa.PSa

/-- So many times the same bytes. -/
def rep (a : List Int) : Nat → List Int
  | 0 => []
  | k + 1 => rep a k ++ a
theorem rep_length (a : List Int) : ∀ k, (rep a k).length = k * a.length
  | 0 => by simp [rep]
  | k + 1 => by rw [rep, List.length_append, rep_length a k, Nat.succ_mul]
theorem rep_bound (a : List Int) (k : Nat) (hk : k ≤ 4) (ha : a.length ≤ 4000) : (rep a k).length + a.length ≤ 20000 := by
  have h4 : k * a.length ≤ 4 * 4000 := Nat.mul_le_mul hk ha
  rw [rep_length]
  omega
theorem rep_bound2 (a : List Int) (k : Nat) (hk : k ≤ 4) (ha : a.length ≤ 4000) : (rep a k).length ≤ 20000 := by
  have := rep_bound a k hk ha
  omega
theorem own_sum {wz : World} {gx nT : Nat} {T O : List Int} (hn : T.length = nT) (hO : sum T = O) (hT : nT ≤ 20000) (hx : Dg wz gx (dH T H0) (dR T) (nT : Nat)) (W : World) (hb : Below wz.heap.size wz W) :
    Calls Try.prog 13 #[.pointer (some ⟨gx, 0, none⟩)] W fun e w' => e = .returned (.agg (u8s O)) ∧ Below W.heap.size W w' := by
  subst hn
  rw [← hO]
  exact dsum13 W gx T (hx.keep hb) (by omega)
theorem own_one {W : World} {A3 : Option Addr} {nT c3 : Nat} {T O : List Int} (hn : T.length = nT) (hO : sum T = O) (hT : nT ≤ 20000) (hc : nT ≤ c3) (hC : KBs.C W A3 nT T) :
    Calls Try.prog 8 #[.slice (some ⟨W.heap.size, 0, none⟩) 1 1] (W.alloc (.cells #[.slice A3 nT c3] 23)) fun e w' => e = .returned (.agg (u8s O)) ∧ Below (W.alloc (.cells #[.slice A3 nT c3] 23)).heap.size (W.alloc (.cells #[.slice A3 nT c3] 23)) w' := by
  subst hn
  have hs := ssum8 (W.alloc (.cells #[.slice A3 T.length c3] 23)) [T] (some ⟨W.heap.size, 0, none⟩) 1 1 (KR_one (blk_new W _) hc (Kd.C_alloc hC _)) rfl (by decide) (by simp; omega)
  rw [show [T].flatten = T by simp, hO] at hs
  exact hs
theorem le_of_add {x y : Nat} (h : x + y ≤ 20000) : x + y ≤ 900000 ∧ x ≤ 900000 ∧ (x + y) * 1 ≤ 140737488355328 := by omega
theorem R_kept2 {w w' : World} {base g : Nat} {ok : Nat → Prop} {h : List Int} {x y v : Value} {l : List Int} (hR : Kd.R KBs 5 w base ok v l) (hg : w.heap[g]? = some (.cells (dig h x y) 56 (0, 0))) (hG : w.grownBy w' (some g)) : Kd.R KBs 5 w' base ok v l := by
  have hk := Kd.R_types hR hg (fun q hq => by
    have e : q = 5 := by
      rw [show KBs.E = [] from rfl] at hq
      simpa using hq
    rw [e]; decide)
  exact Kd.R_mono (Kd.R_grown hk hG (fun k hk e => hk.2 (by injection e))) (fun _ hk => hk.1)
theorem Db.kept2 {base : Nat} {w w' : World} {g g2 : Nat} {h h2 r : List Int} {x y : Value} {n : Int} (H : Db base w g h r n) (hg : w.heap[g2]? = some (.cells (dig h2 x y) 56 (0, 0))) (hG : w.grownBy w' (some g2)) (hne : g ≠ g2) : Db base w' g h r n := by
  obtain ⟨v, h1, hR⟩ := H.out
  exact ⟨v, (hG.block g (heap_lt h1) (by intro e; injection e with e; exact hne e)).trans h1, R_kept2 hR hg hG⟩
theorem Db.far2 {base : Nat} {w w' : World} {g : Nat} {h r : List Int} {n : Int} {row : Option Nat} (H : Db base w g h r n) (hG : w.grownBy w' row) (hq : ∀ q, row = some q → g ≠ q ∧ q < base) : Db base w' g h r n := by
  obtain ⟨v, h1, h2⟩ := H.out
  refine ⟨v, (hG.block g (heap_lt h1) (fun e => (hq g e.symm).1 rfl)).trans h1, ?_⟩
  exact Kd.R_mono (Kd.R_grown (Kd.R_bound h2) hG (fun k hk e => by have := (hq k e.symm).2; have := hk.2.1; omega)) (fun _ _ => trivial)
/-- The loop's state of ShaOwn. -/
structure Ow (w wl wr : World) (gx gy : Nat) (a b : List Int) (vm u : Value) (k : Nat) : Prop where
  below : Below w.heap.size w wr
  size : wl.heap.size ≤ wr.heap.size
  x : Dg wr gx (dH (rep a k) H0) (dR (rep a k)) ((rep a k).length : Nat)
  y : Dg wr gy (dH (rep b k) H0) (dR (rep b k)) ((rep b k).length : Nat)
  mine : Kd.R KBs 5 wr 0 (fun q => q < wl.heap.size) vm a
  all : Kd.R KBs 5 wr wl.heap.size (fun _ => True) u (rep a k)
theorem Ow.on {w wl wr wr' : World} {gx gy : Nat} {a b : List Int} {vm u : Value} {k : Nat} (H : Ow w wl wr gx gy a b vm u k) (hb : Below wr.heap.size wr wr') : Ow w wl wr' gx gy a b vm u k :=
  ⟨below_then H.below H.below.size hb, Nat.le_trans H.size hb.size, H.x.keep hb, H.y.keep hb, Kd.R_below H.mine hb, Kd.R_below H.all hb⟩
/-- A round: x and y have taken in their bytes, the bytes of both are laid behind one another. -/
theorem Ow.round {w wl w0 w1 w2 w3 : World} {gx gy : Nat} {a b : List Int} {vm u v3 : Value} {k : Nat} (H : Ow w wl w0 gx gy a b vm u k) (hxy : gx ≠ gy) (hx : w.heap.size ≤ gx) (hy : w.heap.size ≤ gy) (hxl : gx < wl.heap.size) (hyl : gy < wl.heap.size) (hwl : w.heap.size ≤ wl.heap.size)
    (hG1 : w0.grownBy w1 (some gx)) (hD1 : Db w0.heap.size w1 gx (dH (rep a k ++ a) H0) (dR (rep a k ++ a)) (((rep a k).length + a.length : Nat) : Int))
    (hG2 : w1.grownBy w2 (some gy)) (hD2 : Db w1.heap.size w2 gy (dH (rep b k ++ b) H0) (dR (rep b k ++ b)) (((rep b k).length + b.length : Nat) : Int))
    (hR3 : Kd.R KBs 5 w3 wl.heap.size (fun _ => True) v3 (rep a k ++ a)) (hG3 : w2.grownBy w3 u.ownBlock) : Ow w wl w3 gx gy a b vm v3 (k + 1) := by
  obtain ⟨vx, hx0, _⟩ := H.x.out
  obtain ⟨vy, hy0, _⟩ := H.y.out
  have hy1 := (hG1.block gy (heap_lt hy0) (by intro e; injection e with e; exact hxy e.symm)).trans hy0
  have hu : ∀ q, u.ownBlock = some q → wl.heap.size ≤ q ∧ q < w0.heap.size := fun q e => ⟨Kd.R_base H.all q e, Kd.R_lt H.all q e⟩
  have hs1 := hG1.size
  have hs2 := hG2.size
  have hs3 := hG3.size
  have hs0 := H.size
  refine ⟨?_, by omega, ?_, ?_, ?_, hR3⟩
  · have b1 := H.below.grown hG1 H.below.size (fun q e => by injection e with e; omega)
    have b2 := b1.grown hG2 b1.size (fun q e => by injection e with e; omega)
    exact b2.grown hG3 b2.size (fun q e => by have := (hu q e).1; omega)
  · have d1 := hD1.kept2 hy1 hG2 hxy
    have d2 := d1.far2 hG3 (fun q e => by have := hu q e; omega)
    rw [rep, List.length_append]
    exact d2.dg
  · have d2 := hD2.far2 hG3 (fun q e => by have := hu q e; omega)
    rw [rep, List.length_append]
    exact d2.dg
  · have m1 := R_kept2 H.mine hx0 hG1
    have m2 := R_kept2 m1 hy1 hG2
    exact Kd.R_grown m2 hG3 (fun q hq e => by have := (hu q e.symm).1; omega)
set_option maxRecDepth 100000 in
set_option maxHeartbeats 40000000 in
theorem own5 (w : World) (a : List Int) (Aa : Option Addr) (ca : Nat) (hCa : KBs.C w Aa a.length a) (hca : a.length ≤ ca) (b : List Int) (Ab : Option Addr) (cb : Nat) (hCb : KBs.C w Ab b.length b) (hcb : b.length ≤ cb) (n : Int) :
    Calls Try.prog 5 #[.slice Aa a.length ca, .slice Ab b.length cb, .int .i64 n] w fun e w' => e = .returned (.bool true) ∧ Below w.heap.size w w' := by
  have HK := Aside0.mk (fun W => known7 W)
  have HCa := Aside0.mk (fun (W : World) (hb : Below w.heap.size w W) => Kd.C_below hCa hb)
  have HCb := Aside0.mk (fun (W : World) (hb : Below w.heap.size w W) => Kd.C_below hCb hb)
  have Hca := Aside0.mk hca
  have Hcb := Aside0.mk hcb
  obtain ⟨r, hr, hr1, hr2⟩ := absmod n 5 (by decide) (by decide)
  clear hCa hCb hca hcb
  go_enter Try.func5, Try.ntmps5
  by_cases ha : (a.length : Int) > 4000
  · go_wp2_with (go_at_call 7; refine (HK.out _).mono ?_; rintro e w1 ⟨rfl, hb1⟩)
    go_ret
    exact ⟨rfl, hb1⟩
  by_cases hb : (b.length : Int) > 4000
  · go_wp2_with (go_at_call 7; refine (HK.out _).mono ?_; rintro e w1 ⟨rfl, hb1⟩)
    go_ret
    exact ⟨rfl, hb1⟩
  have Hal := Aside0.mk (show a.length ≤ 4000 ∧ b.length ≤ 4000 by omega)
  obtain ⟨la, hla⟩ : ∃ x, a.length = x := ⟨_, rfl⟩
  obtain ⟨lb, hlb⟩ : ∃ x, b.length = x := ⟨_, rfl⟩
  have Hla := Aside0.mk hla
  have Hlb := Aside0.mk hlb
  rw [hla] at ha Hca
  rw [hlb] at hb Hcb
  rw [hla, hlb]
  rw [hla, hlb] at Hal
  simp only [hla] at HCa
  simp only [hlb] at HCb
  clear hla hlb
  go_wp2_with (first
    | (go_at_call 7; refine (HK.out _).mono ?_; rintro e w1 ⟨rfl, hb1⟩; have Hb1 := Aside0.mk hb1; clear hb1)
    | (go_at_call 11; refine (new11 w1).mono ?_; rintro e w2 ⟨rfl, hb2, hD2⟩; have Hb2 := Aside0.mk hb2; have HD2 := Aside0.mk hD2; clear hb2 hD2)
    | (go_at_call 11; refine (new11 w2).mono ?_; rintro e w3 ⟨rfl, hb3, hD3⟩; have Hb3 := Aside0.mk hb3; have HD3 := Aside0.mk hD3; clear hb3 hD3; have HE := Aside0.mk (show Kd.R KBs 5 (w3.alloc (.cells #[] 5)) w3.heap.size (fun _ => True) (.slice (some ⟨w3.heap.size, 0, none⟩) 0 0) [] from
        Kd.R_of_own ⟨by simp [encs], .inr ⟨w3.heap.size, 0, #[], rfl, Nat.le_refl _, heap_alloc_new _ _, by simp, by unfold maxLen; omega, by simp, by simp [encs]⟩⟩ (fun _ _ => trivial)))
    | ((with_reducible refine gate_dst (N := 34) rfl ?_); refine Kd.R_append_rows KBs (w0 := w3) w3.heap.size rfl (.tmp 32) (.tmp 33) 23 5 (.int .u8 0) 1 rfl Try.underlying23 info5 rfl (by decide) (by omega) _ [] a _ _ _ (fun _ => True) (fun _ => False) rfl rfl HE.out (Kd.C_alloc (HCa.out w3 (below_then (below_then Hb1.out Hb1.out.size Hb2.out) (below_then Hb1.out Hb1.out.size Hb2.out).size Hb3.out)) _) (fun _ _ h => h) (fun _ h => h.elim) (fun _ _ => trivial) (below_alloc (Below.refl w3.heap.size w3) _) (by simp) (by have := Hal.out; simp; omega) ?_; intro vm w4 ho hb' hg' hat; have HR4 := Aside0.mk ho; have Hb4 := Aside0.mk hb'; clear ho hb' hg' hat))
  have hxl : w1.heap.size < w2.heap.size := HD2.out.lt
  have hyl : w2.heap.size < w3.heap.size := HD3.out.lt
  have hs1 : w.heap.size ≤ w1.heap.size := Hb1.out.size
  have hs4 : w3.heap.size ≤ w4.heap.size := Hb4.out.size
  obtain ⟨Am, cm, em, hcm, _⟩ := Kd.R_reads HR4.out
  rw [List.nil_append, Hla.out] at em hcm
  subst em
  have HO := Aside0.mk (show Ow w w4 w4 w1.heap.size w2.heap.size a b (.slice Am la cm) (.slice none 0 0) 0 from by
    have c2 := below_then Hb1.out Hb1.out.size Hb2.out
    have c3 := below_then c2 c2.size Hb3.out
    have c4 := below_then c3 c3.size Hb4.out
    have hR := HR4.out
    rw [List.nil_append] at hR
    have hx4 := (HD2.out.keep Hb3.out).keep Hb4.out
    have hy4 := HD3.out.keep Hb4.out
    exact ⟨c4, Nat.le_refl _, by rw [show rep a 0 = [] from rfl]; exact hx4, by rw [show rep b 0 = [] from rfl]; exact hy4, Kd.R_lower (Kd.R_mono (Kd.R_bound hR) (fun q hq => hq.2.2.1)) (Nat.zero_le _), Kd.R_nil _ _ _ _ _⟩)
  have Hcm := Aside0.mk hcm
  clear HR4 HE HD2 HD3 Hb1 Hb2 Hb3 Hb4 hcm
  generalize w1.heap.size = gx at *
  generalize w2.heap.size = gy at *
  obtain ⟨K, hK⟩ : ∃ K : Nat, r.toNat = K := ⟨_, rfl⟩
  have HKr := Aside0.mk (show K ≤ 4 ∧ (∀ k : Nat, k < K → (k : Int) < r) ∧ (∀ k : Nat, K ≤ k → ¬ (k : Int) < r) ∧ (¬ 0 < r → K = 0) from ⟨by omega, fun k h => by omega, fun k h => by omega, fun h => by omega⟩)
  clear hK hr1 hr2
  go_loopw [11, 9] (fun i u wr => ∃ k : Nat, k ≤ K ∧ i = .int .i64 (k : Nat) ∧ Ow w w4 wr gx gy a b (.slice Am la cm) u k) (fun i _ _ => K - (intOf i).toNat)
  case atStart => exact ⟨0, Nat.zero_le _, rfl, HO.out⟩
  case round =>
    clear HO
    obtain ⟨k, hk, rfl, hO⟩ := hrel
    by_cases hlt : k < K
    · have q1 := HKr.out.2.1 k hlt
      have w2' : wrap64 ((k : Int) + 1) = (k : Int) + 1 := by have := HKr.out.1; unfold wrap64; omega
      have hCm := (Kd.R_reads' hO.mine).2.2
      have hla2 : (rep a k).length + a.length ≤ 20000 ∧ (rep b k).length + b.length ≤ 20000 := ⟨rep_bound a k (Nat.le_trans hk HKr.out.1) (Nat.le_trans (Nat.le_of_eq Hla.out) Hal.out.1), rep_bound b k (Nat.le_trans hk HKr.out.1) (Nat.le_trans (Nat.le_of_eq Hlb.out) Hal.out.2)⟩
      have HLa := Aside0.mk hla2
      have HO := Aside0.mk hO
      have hgxy : gx < gy := by omega
      have HWx := Aside0.mk (show Calls Try.prog 12 #[.pointer (some ⟨gx, 0, none⟩), .slice Am la cm] wr _ from by
        have h := writeB wr gx H0 (rep a k) a (rep a k).length Am cm rfl hO.x hCm (by rw [Hla.out]; exact Hcm.out) (le_of_add hla2.1).1 (le_of_add hla2.1).2.1
        rw [Hla.out] at h
        exact h)
      clear hCm hO hla2
      have HX := Aside0.mk (show ∀ (w1' w2' : World), wr.grownBy w1' (some gx) → w1'.grownBy w2' (some gy) → Below w.heap.size w w1' ∧ Below w.heap.size w w2' from fun w1' w2' h1 h2 => by
        have hxw : w.heap.size ≤ gx := hs1
        have hyw : w.heap.size ≤ gy := Nat.le_trans hs1 (Nat.le_of_lt hxl)
        have b1 := HO.out.below.grown h1 HO.out.below.size (fun q e => by injection e with e; rw [← e]; exact hxw)
        exact ⟨b1, b1.grown h2 b1.size (fun q e => by injection e with e; rw [← e]; exact hyw)⟩)
      have HWy := Aside0.mk (show ∀ W : World, wr.grownBy W (some gx) → Calls Try.prog 12 #[.pointer (some ⟨gy, 0, none⟩), .slice Ab lb cb] W fun e w' => e = .returned (.tuple #[]) ∧ W.grownBy w' (some gy) ∧ Db W.heap.size w' gy (dH (rep b k ++ b) H0) (dR (rep b k ++ b)) (((rep b k).length + lb : Nat) : Int) from fun W h1 => by
        obtain ⟨vx, hx0, _⟩ := HO.out.x.out
        have hD := HO.out.y.kept h1 (Nat.ne_of_gt hxl) hx0 (by decide)
        have hC := HCb.out W (HX.out W W h1 ⟨rfl, rfl, rfl, Nat.le_refl _, fun _ _ _ => rfl⟩).1
        have h := writeB W gy H0 (rep b k) b (rep b k).length Ab cb rfl hD (by rw [Hlb.out]; exact hC) (by rw [Hlb.out]; exact Hcb.out) (le_of_add HLa.out.2).1 (le_of_add HLa.out.2).2.1
        rw [Hlb.out] at h
        exact h)
      have HAll := Aside0.mk (show ∀ W1 W2 : World, wr.grownBy W1 (some gx) → W1.grownBy W2 (some gy) → Kd.R KBs 5 W2 w4.heap.size (fun _ => True) u9 (rep a k) ∧ KBs.C W2 Aa la a from fun W1 W2 h1 h2 => by
        obtain ⟨vx, hx0, _⟩ := HO.out.x.out
        obtain ⟨vy, hy0, _⟩ := HO.out.y.out
        have hy1 := (h1.block gy (heap_lt hy0) (by intro e; injection e with e; exact Nat.ne_of_gt hxl e)).trans hy0
        exact ⟨R_kept2 (R_kept2 HO.out.all hx0 h1) hy1 h2, HCa.out W2 (HX.out W1 W2 h1 h2).2⟩)
      have HLn := Aside0.mk (show ((rep a k).length + la) * 1 ≤ 140737488355328 by have h := (le_of_add HLa.out.1).2.2; rw [Hla.out] at h; exact h)
      go_wp2_with (first
        | (go_at_call 12; refine HWx.out.mono ?_; rintro e wx ⟨rfl, hG1, hD1⟩; have HG1 := Aside0.mk hG1; have HD1 := Aside0.mk hD1; clear hG1 hD1 HWx)
        | (go_at_call 12; refine (HWy.out wx HG1.out).mono ?_; rintro e wy ⟨rfl, hG2, hD2⟩; have HG2 := Aside0.mk hG2; have HD2 := Aside0.mk hD2; clear hG2 hD2 HWy)
        | ((with_reducible refine gate_dst (N := 48) rfl ?_); refine Kd.R_append_rows KBs (w0 := wy) w4.heap.size rfl (.tmp 46) (.tmp 47) 23 5 (.int .u8 0) 1 rfl Try.underlying23 info5 rfl (by decide) (by decide) u9 (rep a k) a _ _ _ (fun _ => True) (fun _ => False) rfl rfl (HAll.out wx wy HG1.out HG2.out).1 (HAll.out wx wy HG1.out HG2.out).2 (fun _ _ h => h) (fun _ h => h.elim) (fun _ _ => trivial) (Below.refl _ _) (Nat.le_trans HO.out.size (Nat.le_trans HG1.out.size HG2.out.size)) HLn.out ?_; intro v3 wz ho hb' hg' hat; have HO2 := Aside0.mk (HO.out.round (Nat.ne_of_lt hxl) hs1 (Nat.le_trans hs1 (Nat.le_of_lt hxl)) (Nat.lt_of_lt_of_le (Nat.lt_trans hxl hyl) hs4) (Nat.lt_of_lt_of_le hyl hs4) (Nat.le_trans hs1 (Nat.le_of_lt (Nat.lt_of_lt_of_le (Nat.lt_trans hxl hyl) hs4))) HG1.out (by rw [Hla.out]; exact HD1.out) HG2.out (by rw [Hlb.out]; exact HD2.out) ho hg'); clear ho hb' hg' hat HG1 HG2 HD1 HD2 HAll HO; obtain ⟨A3, c3, e3, hc3, hC3⟩ := Kd.R_reads HO2.out.all; subst e3; have hx3 := HO2.out.x; have hTb := rep_bound2 a (k + 1) (Nat.le_trans hlt HKr.out.1) (Nat.le_trans (Nat.le_of_eq Hla.out) Hal.out.1); have hM3 := (Kd.R_reads' HO2.out.mine).2.2; generalize rep a (k + 1) = T at *; generalize hnT : T.length = nT at *; generalize hO3 : sum T = O at *; have hsl : O.length = 32 := (by rw [← hO3]; exact sum_length T); have heq := fun W => eq25 O O hsl hsl W; have HnT := Aside0.mk hnT; have Hc3 := Aside0.mk hc3; have HC3 := Aside0.mk hC3; have HM3 := Aside0.mk hM3; have Hx3 := Aside0.mk hx3; have HTb := Aside0.mk hTb; have HO3 := Aside0.mk hO3; have HS0 := Aside0.mk (Below.refl wz.heap.size wz); clear hnT hc3 hC3 hM3 hx3 hTb hO3)
        | (go_at_call 13; refine (own_sum HnT.out HO3.out HTb.out Hx3.out wz HS0.out).mono ?_; rintro e y1 ⟨rfl, hb⟩; have HS1 := Aside0.mk (below_then HS0.out HS0.out.size hb); clear hb HS0)
        | (go_at_call 8; refine (own_one HnT.out HO3.out HTb.out Hc3.out (Kd.C_below HC3.out HS1.out)).mono ?_; rintro e y2 ⟨rfl, hb⟩; have HS2 := Aside0.mk (below_then (HS1.out.alloc HS1.out.size _) (HS1.out.alloc HS1.out.size _).size hb); clear hb HS1)
        | (go_at_call 13; refine (own_sum HnT.out HO3.out HTb.out Hx3.out y2 HS2.out).mono ?_; rintro e y3 ⟨rfl, hb⟩; have HS3 := Aside0.mk (below_then HS2.out HS2.out.size hb); clear hb HS2)
        | (go_at_call 8; refine (own_one HnT.out HO3.out HTb.out Hc3.out (Kd.C_below HC3.out HS3.out)).mono ?_; rintro e y4 ⟨rfl, hb⟩; have HS4 := Aside0.mk (below_then (HS3.out.alloc HS3.out.size _) (HS3.out.alloc HS3.out.size _).size hb); clear hb HS3; have hcm2 := Kd.C_string (P := Try.prog) (c := cm) Try.underlying23 Try.underlying5 Try.underlying9 (Kd.C_below HM3.out HS4.out); have hca2 := Kd.C_string (P := Try.prog) (c := ca) Try.underlying23 Try.underlying5 Try.underlying9 (HCa.out y4 (HO2.out.on HS4.out).below); rw [Hla.out] at hcm2))
      go_roundw
      case rel => exact ⟨k + 1, hlt, by rw [w2']; rfl, HO2.out.on HS4.out⟩
      case measure =>
        rw [w2']
        exact meas_1 K k hlt
    · obtain rfl : k = K := Nat.le_antisymm hk (Nat.not_lt.1 hlt)
      have q1 := HKr.out.2.2.1 k (Nat.le_refl _)
      obtain ⟨A9, c9, e9, hc9, _⟩ := Kd.R_reads hO.all
      subst e9
      have hx9 := hO.x
      have hHl : (dH (rep a k) H0).length = 8 := by rw [dH, absN_length]; rfl
      have HBo := Aside0.mk hO.below
      have hK0 : ¬ 0 < r → rep a k = [] := fun h => by rw [HKr.out.2.2.2 h]; rfl
      generalize rep a k = T at *
      generalize hnT : T.length = nT at *
      have HnT := Aside0.mk hnT
      clear hnT
      have H14 := Aside0.mk (len14 wr gx _ _ _ hx9 hHl)
      clear hO hk
      by_cases hr0 : 0 < r
      · clear hx9 hK0
        go_wp2_with (go_at_call 14; refine H14.out.mono ?_; rintro e y1 ⟨rfl, hDr⟩)
        go_ret
        obtain ⟨nd, rfl⟩ := hDr
        exact ⟨rfl, pw_below_drewN HBo.out nd⟩
      · have hTn := hK0 hr0
        subst hTn
        have H13 := Aside0.mk (fun (W : World) (hb : Below wr.heap.size wr W) => own_sum (T := []) (O := sum []) HnT.out rfl (Nat.le_trans (Nat.le_of_eq HnT.out.symm) (by decide)) hx9 W hb)
        have H8 := Aside0.mk (fun W : World => ssum8 W [] none 0 0 ⟨rfl, by decide, fun h => absurd h (by decide)⟩ rfl (by decide) (by decide))
        have hsl := sum_length []
        have hfl : sum ([] : List (List Int)).flatten = sum [] := rfl
        rw [hfl] at H8
        generalize sum [] = O at *
        have heq := fun W => eq25 O O hsl hsl W
        clear hx9 hK0 hfl
        go_wp2_with (first
          | (go_at_call 14; refine H14.out.mono ?_; rintro e y1 ⟨rfl, hDr⟩; have HB1 := Aside0.mk (show Below wr.heap.size wr y1 from by obtain ⟨nd, rfl⟩ := hDr; exact pw_below_drewN (Below.refl _ _) nd); clear hDr)
          | (go_at_call 13; refine (H13.out y1 HB1.out).mono ?_; rintro e y2 ⟨rfl, hb⟩; have HB2 := Aside0.mk (below_then HB1.out HB1.out.size hb); clear hb HB1)
          | (go_at_call 8; refine (H8.out y2).mono ?_; rintro e y3 ⟨rfl, hb⟩; have HB3 := Aside0.mk (below_then HB2.out HB2.out.size hb); clear hb HB2))
        go_ret
        exact ⟨rfl, below_then HBo.out HBo.out.size HB3.out⟩
end Go.Proofs.Ytcagmiglgpjcjaa.Sh
