/-
  The walk of sha.mix: the reference's block, over the first eight cells of a digest.
-/
import Derived.Test.YtcagmiglgpjcjaaShaDef
import Derived.Deep.RegionLaw
import Derived.Laws.CopyOwn
set_option linter.unusedVariables false
set_option linter.unusedSimpArgs false
namespace Go.Proofs.Ytcagmiglgpjcjaa.Sh
open Go.RowKit Go.Proofs.YtcagmiglgpjcjaaW.PrintWords Go.Proofs.YtcagmiglgpjcjaaW.PrintLast Go.Proofs.YtcagmiglgpjcjaaW.PrintMore Go.Proofs.Ytcagmiglgpjcjaa.PSa

/-- The rounds' constants. -/
def Kc : List Int := [1116352408, 1899447441, 3049323471, 3921009573, 961987163, 1508970993, 2453635748, 2870763221, 3624381080, 310598401, 607225278, 1426881987, 1925078388, 2162078206, 2614888103, 3248222580, 3835390401, 4022224774, 264347078, 604807628, 770255983, 1249150122, 1555081692, 1996064986, 2554220882, 2821834349, 2952996808, 3210313671, 3336571891, 3584528711, 113926993, 338241895, 666307205, 773529912, 1294757372, 1396182291, 1695183700, 1986661051, 2177026350, 2456956037, 2730485921, 2820302411, 3259730800, 3345764771, 3516065817, 3600352804, 4094571909, 275423344, 430227734, 506948616, 659060556, 883997877, 958139571, 1322822218, 1537002063, 1747873779, 1955562222, 2024104815, 2227730452, 2361852424, 2428436474, 2756734187, 3204031479, 3329325298]
theorem Kc_length : Kc.length = 64 := rfl
theorem below_of_only {w w' : World} (h : w.grownBy w' none) : Below w.heap.size w w' := ⟨h.os, h.tape, h.output, h.size, fun k hk => h.block k hk (by simp)⟩
set_option maxRecDepth 100000 in
theorem rounds30 (w : World) : Calls Try.prog 30 #[] w fun e w' => e = .returned (.agg (u32s Kc)) ∧ w.grownBy w' none := by
  go_enter Try.func30, Try.ntmps30
  go_wp2_with (first
    | ((with_reducible refine gate_dst (N := 0) rfl ?_); refine step_alloc rfl 50 rfl (u32s z64) zero50.1 ?_)
    | ((with_reducible refine gate_dst (N := 1) rfl ?_); refine Kd.event_run (v := .agg (u32s Kc)) (w1 := w.alloc (.cells (u32s z64) 50)) rfl (by kernel_rfl) ?_)
    | ((with_reducible refine gate_store (t := 50) (p := 0) (v := .tmp 1) rfl ?_); refine wpList_store_row rfl 50 (.tmp 0) (.tmp 1) rfl w.heap.size (u32s Kc) rfl rfl 50 (u32s z64) (blk_new w _) zero50.2 rfl (u32s_one Kc) ?_; rw [World.setRow_alloc_new]))
  (try simp only [Exit.inBlock, Exit.then])
  refine bodyPost_ret (results_cell_row rfl _ _ w.heap.size 50 (u32s Kc) (0, 0) _ rfl (blk_new w _) Try.underlying50 rfl zero50.2) rfl ?_
  exact ⟨rfl, World.grownBy_alloc w _ none⟩
theorem info48 : (Try.prog.info? 48).map (·.size) = some 1 := by kernel_rfl
theorem one_of (l : List Int) : ∀ u ∈ l.map (Value.int .u32), u.oneCell' = true := by
  intro u hu
  obtain ⟨x, _, rfl⟩ := List.mem_map.1 hu
  rfl
/-- A digest's cells. -/
def dig (h : List Int) (x y : Value) : Array Value := (h.map (Value.int .u32) ++ [x, y]).toArray
theorem dig_get {h : List Int} {x y : Value} {j : Nat} (hj : j < h.length) : (dig h x y)[j]? = some (.int .u32 (at32 h j)) := by
  simp [dig, List.getElem?_append_left, hj, at32]
theorem dig_set {h : List Int} {x y : Value} {j : Nat} (hj : j < h.length) (u : Int) : (dig h x y).setIfInBounds j (.int .u32 u) = dig (h.set j u) x y := by
  apply Array.ext_getElem?
  intro i
  simp only [dig, Array.getElem?_setIfInBounds, List.getElem?_toArray, List.getElem?_append, List.getElem?_map, List.getElem?_set, List.size_toArray, List.length_map, List.length_append, List.length_set]
  by_cases h2 : j = i
  · subst h2
    simp [hj]
    omega
  · simp [h2]
theorem dig_cell {w : World} {g : Nat} {t : TypeId} {h : List Int} {x y : Value} (hb : w.heap[g]? = some (.cells (dig h x y) t (0, 0))) {j : Nat} (hj : j < h.length) : w.cell? ⟨g, j, none⟩ = some (.int .u32 (at32 h j)) := by
  rw [cell_of_row w g j _ t (0, 0) hb, dig_get hj]
/-- The rows of mix's walk. -/
structure Mx (w wr : World) (r : Option Nat) (g : Nat) (h : List Int) (x y : Value) (b : Nat) (K W : List Int) : Prop where
  only : w.grownBy wr r
  hb : w.heap.size ≤ b
  hg : g < w.heap.size
  bh : wr.heap[g]? = some (.cells (dig h x y) 56 (0, 0))
  bk : wr.heap[b]? = some (.cells (u32s K) 50 (0, 0))
  bw : wr.heap[b + 1]? = some (.cells (u32s W) 50 (0, 0))
section
variable {w wr : World} {r : Option Nat} {g b : Nat} {h K W : List Int} {x y : Value}
theorem only_row {a w : World} {g : Nat} (h : a.grownBy w none) : a.grownBy w (some g) := ⟨h.os, h.tape, h.output, h.size, fun i hi _ => h.block i hi (by simp)⟩
theorem Mx.start {w2 : World} (hG : w.grownBy w2 none) (hg : w.heap[g]? = some (.cells (dig h x y) 56 (0, 0))) : Mx w ((w2.alloc (.cells (u32s K) 50)).alloc (.cells (u32s z64) 50)) none g h x y w2.heap.size K z64 := by
  have s1 : (w2.alloc (.cells (u32s K) 50)).heap.size = w2.heap.size + 1 := by show (w2.heap.push _).size = _; simp
  refine ⟨only_alloc (only_alloc hG _) _, hG.size, heap_lt hg, blkalloc (blkalloc ((hG.block g (heap_lt hg) (by simp)).trans hg) _) _, blkalloc (blk_new w2 _) _, ?_⟩
  rw [← s1]
  exact blk_new _ _
theorem Mx.last (H : Mx w wr none g h x y b K W) : Mx w wr (some g) g h x y b K W := ⟨only_row H.only, H.hb, H.hg, H.bh, H.bk, H.bw⟩
theorem Mx.setW (H : Mx w wr r g h x y b K W) (i : Nat) (u : Int) : Mx w (wr.setCell ⟨b + 1, i, none⟩ (.int .u32 u)) r g h x y b K (W.set i u) := by
  have hg := H.hg
  have hb := H.hb
  exact ⟨only_set_new H.only (by omega) _ _, H.hb, H.hg, blkfar H.bh (by show g ≠ b + 1; omega) _, blkfar H.bk (by show b ≠ b + 1; omega) _, by rw [← u32s_set]; exact blkset H.bw i _⟩
theorem Mx.setH (H : Mx w wr (some g) g h x y b K W) {i : Nat} (hi : i < h.length) (u : Int) : Mx w (wr.setCell ⟨g, i, none⟩ (.int .u32 u)) (some g) g (h.set i u) x y b K W := by
  have hg := H.hg
  have hb := H.hb
  exact ⟨only_set H.only _ _, H.hb, H.hg, by rw [← dig_set hi]; exact blkset H.bh i _, blkfar H.bk (by show b ≠ g; omega) _, blkfar H.bw (by show b + 1 ≠ g; omega) _⟩
theorem Mx.drew (H : Mx w wr r g h x y b K W) : Mx w wr.drew r g h x y b K W := ⟨only_drew H.only, H.hb, H.hg, H.bh, H.bk, H.bw⟩
theorem Mx.drewN (H : Mx w wr r g h x y b K W) (n : Nat) : Mx w (wr.drewN n) r g h x y b K W := ⟨only_drewN H.only n, H.hb, H.hg, H.bh, H.bk, H.bw⟩
theorem Mx.drawn {wr' : World} (H : Mx w wr r g h x y b K W) (hd : Drawn0 wr wr') : Mx w wr' r g h x y b K W := by
  obtain ⟨n, rfl⟩ := hd
  exact H.drewN n
theorem Mx.alloc (H : Mx w wr r g h x y b K W) (o : Obj) : Mx w (wr.alloc o) r g h x y b K W := ⟨only_alloc H.only o, H.hb, H.hg, blkalloc H.bh o, blkalloc H.bk o, blkalloc H.bw o⟩
theorem Mx.setV (H : Mx w wr r g h x y b K W) {v : Nat} (hv : b + 1 < v) (i : Nat) (u : Value) : Mx w (wr.setCell ⟨v, i, none⟩ u) r g h x y b K W := by
  have hg := H.hg
  have hb := H.hb
  exact ⟨only_set_new H.only (by omega) _ _, H.hb, H.hg, blkfar H.bh (by show g ≠ v; omega) _, blkfar H.bk (by show b ≠ v; omega) _, blkfar H.bw (by show b + 1 ≠ v; omega) _⟩
theorem Mx.below (H : Mx w wr r g h x y b K W) {v : Nat} (hv : b + 1 < v) {w3 : World} (hB : Below v wr w3) : Mx w w3 r g h x y b K W := by
  have hg := H.hg
  have hb := H.hb
  exact ⟨⟨hB.os.trans H.only.os, hB.tape.trans H.only.tape, hB.output.trans H.only.output, Nat.le_trans H.only.size hB.size, fun i hi hne => (hB.block i (by omega)).trans (H.only.block i hi hne)⟩, H.hb, H.hg, (hB.block g (by omega)).trans H.bh, (hB.block b (by omega)).trans H.bk, (hB.block (b + 1) hv).trans H.bw⟩
end
set_option maxRecDepth 100000 in
set_option maxHeartbeats 40000000 in
theorem mix23 (w : World) (g : Nat) (h m : List Int) (x y : Value) (A : Option Addr) (c : Nat) (hh : h.length = 8) (hg : w.heap[g]? = some (.cells (dig h x y) 56 (0, 0))) (hm : KB.C w A 64 m) :
    Calls Try.prog 23 #[.pointer (some ⟨g, 0, none⟩), .slice A 64 c] w fun e w' => e = .returned (.tuple #[]) ∧ w.grownBy w' (some g) ∧ w'.heap[g]? = some (.cells (dig (comp h Kc m) x y) 56 (0, 0)) := by
  go_enter Try.func23, Try.ntmps23
  go_wp2_with (first
    | (go_at_call 30; refine (rounds30 _).mono ?_; rintro e w2 ⟨rfl, hG⟩)
    | ((with_reducible refine gate_dst (N := 4) rfl ?_); refine step_alloc rfl 50 rfl (u32s z64) zero50.1 ?_)
    | ((with_reducible refine gate_store (t := 50) (p := 4) (v := .tmp 18) rfl ?_); refine wpList_store_row rfl 50 (.tmp 4) (.tmp 18) rfl w2.heap.size (u32s Kc) rfl rfl 50 (u32s z64) (blk_new w2 _) zero50.2 rfl (u32s_one Kc) ?_; rw [World.setRow_alloc_new])
    | ((with_reducible refine gate_dst (N := 5) rfl ?_); refine step_alloc rfl 50 rfl (u32s z64) zero50.1 ?_))
  have H0 := Mx.start (K := Kc) hG hg
  generalize w2.heap.size = b at *
  generalize ((w2.alloc (.cells (u32s Kc) 50)).alloc (.cells (u32s z64) 50)) = wr0 at *
  clear hG hg
  go_loopw [19, 6, 7, 8, 9, 10] (fun v _ _ _ _ _ wr => ∃ k : Nat, k ≤ 64 ∧ v = .int .i64 (k : Nat) ∧ Mx w wr none g h x y b Kc (Ws m k)) (fun v _ _ _ _ _ _ => 64 - (intOf v).toNat)
  case atStart => exact ⟨0, Nat.zero_le _, rfl, H0⟩
  case round =>
    clear H0
    obtain ⟨k, hk, rfl, hS⟩ := hrel
    by_cases hlt : k < 16
    · as_aux_lemma =>
        obtain ⟨ad, rfl, hc0⟩ := Kd.at_int (Kd.C_below hm (below_of_only hS.only)) (4 * (k : Int)) (by omega) (by omega)
        obtain ⟨ad1, e1, hc1⟩ := Kd.at_int (Kd.C_below hm (below_of_only hS.only)) (4 * (k : Int) + 1) (by omega) (by omega)
        obtain ⟨ad2, e2, hc2⟩ := Kd.at_int (Kd.C_below hm (below_of_only hS.only)) (4 * (k : Int) + 2) (by omega) (by omega)
        obtain ⟨ad3, e3, hc3⟩ := Kd.at_int (Kd.C_below hm (below_of_only hS.only)) (4 * (k : Int) + 3) (by omega) (by omega)
        cases e1; cases e2; cases e3
        have hfr := frozen_of_row wr _ k _ _ hS.bw
        have q1 : (0 : Int) ≤ (k : Int) := by omega
        have q2 : (k : Int) < 64 := by omega
        have q3 : (k : Int) < 16 := by omega
        have w0' : wrap64 (4 * (k : Int)) = 4 * (k : Int) := by unfold wrap64; omega
        have w1' : wrap64 (4 * (k : Int) + 1) = 4 * (k : Int) + 1 := by unfold wrap64; omega
        have w2' : wrap64 (4 * (k : Int) + 2) = 4 * (k : Int) + 2 := by unfold wrap64; omega
        have w3' : wrap64 (4 * (k : Int) + 3) = 4 * (k : Int) + 3 := by unfold wrap64; omega
        have r0 : (0 : Int) ≤ 4 * (k : Int) := by omega
        have r1 : (0 : Int) ≤ 4 * (k : Int) + 1 := by omega
        have r2 : (0 : Int) ≤ 4 * (k : Int) + 2 := by omega
        have r3 : (0 : Int) ≤ 4 * (k : Int) + 3 := by omega
        have s0 : 4 * (k : Int) < 64 := by omega
        have s1 : 4 * (k : Int) + 1 < 64 := by omega
        have s2 : 4 * (k : Int) + 2 < 64 := by omega
        have s3 : 4 * (k : Int) + 3 < 64 := by omega
        have hcw := at32_cell hS.bw (i := k) (by rw [Ws_length]; omega)
        have HX : Hid (word m (Ws m k) k = wd (rd m (4 * (k : Int))) (rd m (4 * (k : Int) + 1)) (rd m (4 * (k : Int) + 2)) (rd m (4 * (k : Int) + 3))) := if_pos hlt
        generalize at32 (Ws m k) k = xw at *
        have HS := Aside0.mk hS
        clear hS hm
        generalize rd m (4 * (k : Int)) = x0 at *
        generalize rd m (4 * (k : Int) + 1) = x1 at *
        generalize rd m (4 * (k : Int) + 2) = x2 at *
        generalize rd m (4 * (k : Int) + 3) = x3 at *
        go_wp2
        refine start_ (n := 36) (S := fun w' => w'.cell? (ad.add (4 * (k : Int)).toNat) = some (Value.int IntKind.u8 x0) ∧ w'.cell? (ad.add (4 * (k : Int) + 1).toNat) = some (Value.int IntKind.u8 x1) ∧ w'.cell? (ad.add (4 * (k : Int) + 2).toNat) = some (Value.int IntKind.u8 x2) ∧ w'.cell? (ad.add (4 * (k : Int) + 3).toNat) = some (Value.int IntKind.u8 x3)) (ds := [35]) #[false, false, false, false, false, false, false, false, false, false, false, false, false, false, false, false, false, false, false, false, false, false, false, false, false, false, false, false, false, false, false, false, false, false, false, false] (by kernel_rfl) rfl rfl ⟨hc0, hc1, hc2, hc3⟩ (fun hHeld => ?_)
        refine pure_ (i := 0) (N := some 24) (v := ?_) (a' := ?_) #[true, false, false, false, false, false, false, false, false, false, false, false, false, false, false, false, false, false, false, false, false, false, false, false, false, false, false, false, false, false, false, false, false, false, false, false] rfl rfl (by kernel_rfl) (fun _ _ _ h => h) (Or.inl ⟨by rfl, ?_⟩) ?_ ?_
        rotate_left
        · intro w'
          go_simp
          with_reducible rfl
        rotate_left
        · simp only [Act.put, List.setIfInBounds_toArray, List.set_cons_zero, List.set_cons_succ, i64_w, i32_w]
          rfl
        refine pure_ (i := 1) (N := some 25) (v := ?_) (a' := ?_) #[true, true, false, false, false, false, false, false, false, false, false, false, false, false, false, false, false, false, false, false, false, false, false, false, false, false, false, false, false, false, false, false, false, false, false, false] rfl rfl (by kernel_rfl) (fun _ _ _ h => h) (Or.inl ⟨by rfl, ?_⟩) ?_ ?_
        rotate_left
        · intro w'
          go_simp
          with_reducible rfl
        rotate_left
        · simp only [Act.put, List.setIfInBounds_toArray, List.set_cons_zero, List.set_cons_succ, i64_w, i32_w]
          rfl
        refine pure_ (i := 2) (N := some 26) (v := ?_) (a' := ?_) #[true, true, true, false, false, false, false, false, false, false, false, false, false, false, false, false, false, false, false, false, false, false, false, false, false, false, false, false, false, false, false, false, false, false, false, false] rfl rfl (by kernel_rfl) (fun _ _ _ h => h) (Or.inl ⟨by rfl, ?_⟩) ?_ ?_
        rotate_left
        · intro w'
          go_simp
          with_reducible rfl
        rotate_left
        · simp only [Act.put, List.setIfInBounds_toArray, List.set_cons_zero, List.set_cons_succ, i64_w, i32_w]
          rfl
        refine pure_ (i := 3) (N := some 27) (v := ?_) (a' := ?_) #[true, true, true, true, false, false, false, false, false, false, false, false, false, false, false, false, false, false, false, false, false, false, false, false, false, false, false, false, false, false, false, false, false, false, false, false] rfl rfl (by kernel_rfl) (fun _ _ _ h => h) (Or.inl ⟨by rfl, ?_⟩) ?_ ?_
        rotate_left
        · intro w'
          go_simp
          with_reducible rfl
        rotate_left
        · simp only [Act.put, List.setIfInBounds_toArray, List.set_cons_zero, List.set_cons_succ, i64_w, i32_w]
          rfl
        refine pure_ (i := 4) (N := some 28) (v := ?_) (a' := ?_) #[true, true, true, true, true, false, false, false, false, false, false, false, false, false, false, false, false, false, false, false, false, false, false, false, false, false, false, false, false, false, false, false, false, false, false, false] rfl rfl (by kernel_rfl) (fun _ _ _ h => h) (Or.inl ⟨by rfl, ?_⟩) ?_ ?_
        rotate_left
        · intro w'
          go_simp
          with_reducible rfl
        rotate_left
        · simp only [Act.put, List.setIfInBounds_toArray, List.set_cons_zero, List.set_cons_succ, i64_w, i32_w]
          rfl
        refine pure_ (i := 8) (N := some 32) (v := ?_) (a' := ?_) #[true, true, true, true, true, false, false, false, true, false, false, false, false, false, false, false, false, false, false, false, false, false, false, false, false, false, false, false, false, false, false, false, false, false, false, false] rfl rfl (by kernel_rfl) (fun _ _ _ h => h) (Or.inl ⟨by rfl, ?_⟩) ?_ ?_
        rotate_left
        · intro w'
          go_simp
          with_reducible rfl
        rotate_left
        · simp only [Act.put, List.setIfInBounds_toArray, List.set_cons_zero, List.set_cons_succ, i64_w, i32_w]
          rfl
        refine pure_ (i := 9) (N := some 33) (v := ?_) (a' := ?_) #[true, true, true, true, true, false, false, false, true, true, false, false, false, false, false, false, false, false, false, false, false, false, false, false, false, false, false, false, false, false, false, false, false, false, false, false] rfl rfl (by kernel_rfl) (fun _ _ _ h => h) (Or.inl ⟨by rfl, ?_⟩) ?_ ?_
        rotate_left
        · intro w'
          go_simp
          with_reducible rfl
        rotate_left
        · simp only [Act.put, List.setIfInBounds_toArray, List.set_cons_zero, List.set_cons_succ, i64_w, i32_w]
          rfl
        refine pure_ (i := 10) (N := some 34) (v := ?_) (a' := ?_) #[true, true, true, true, true, false, false, false, true, true, true, false, false, false, false, false, false, false, false, false, false, false, false, false, false, false, false, false, false, false, false, false, false, false, false, false] rfl rfl (by kernel_rfl) (fun _ _ _ h => h) (Or.inl ⟨by rfl, ?_⟩) ?_ ?_
        rotate_left
        · intro w'
          go_simp
          with_reducible rfl
        rotate_left
        · simp only [Act.put, List.setIfInBounds_toArray, List.set_cons_zero, List.set_cons_succ, i64_w, i32_w]
          rfl
        refine pure_ (i := 11) (N := some 35) (v := ?_) (a' := ?_) #[true, true, true, true, true, false, false, false, true, true, true, true, false, false, false, false, false, false, false, false, false, false, false, false, false, false, false, false, false, false, false, false, false, false, false, false] rfl rfl (by kernel_rfl) (fun _ _ _ h => h) (Or.inl ⟨by rfl, ?_⟩) ?_ ?_
        rotate_left
        · intro w'
          go_simp
          with_reducible rfl
        rotate_left
        · simp only [Act.put, List.setIfInBounds_toArray, List.set_cons_zero, List.set_cons_succ, i64_w, i32_w]
          rfl
        refine pure_ (i := 12) (N := some 36) (v := ?_) (a' := ?_) #[true, true, true, true, true, false, false, false, true, true, true, true, true, false, false, false, false, false, false, false, false, false, false, false, false, false, false, false, false, false, false, false, false, false, false, false] rfl rfl (by kernel_rfl) (fun _ _ _ h => h) (Or.inl ⟨by rfl, ?_⟩) ?_ ?_
        rotate_left
        · intro w'
          go_simp
          with_reducible rfl
        rotate_left
        · simp only [Act.put, List.setIfInBounds_toArray, List.set_cons_zero, List.set_cons_succ, i64_w, i32_w]
          rfl
        refine pure_ (i := 17) (N := some 41) (v := ?_) (a' := ?_) #[true, true, true, true, true, false, false, false, true, true, true, true, true, false, false, false, false, true, false, false, false, false, false, false, false, false, false, false, false, false, false, false, false, false, false, false] rfl rfl (by kernel_rfl) (fun _ _ _ h => h) (Or.inl ⟨by rfl, ?_⟩) ?_ ?_
        rotate_left
        · intro w'
          go_simp
          with_reducible rfl
        rotate_left
        · simp only [Act.put, List.setIfInBounds_toArray, List.set_cons_zero, List.set_cons_succ, i64_w, i32_w]
          rfl
        refine pure_ (i := 18) (N := some 42) (v := ?_) (a' := ?_) #[true, true, true, true, true, false, false, false, true, true, true, true, true, false, false, false, false, true, true, false, false, false, false, false, false, false, false, false, false, false, false, false, false, false, false, false] rfl rfl (by kernel_rfl) (fun _ _ _ h => h) (Or.inl ⟨by rfl, ?_⟩) ?_ ?_
        rotate_left
        · intro w'
          go_simp
          with_reducible rfl
        rotate_left
        · simp only [Act.put, List.setIfInBounds_toArray, List.set_cons_zero, List.set_cons_succ, i64_w, i32_w]
          rfl
        refine pure_ (i := 19) (N := some 43) (v := ?_) (a' := ?_) #[true, true, true, true, true, false, false, false, true, true, true, true, true, false, false, false, false, true, true, true, false, false, false, false, false, false, false, false, false, false, false, false, false, false, false, false] rfl rfl (by kernel_rfl) (fun _ _ _ h => h) (Or.inl ⟨by rfl, ?_⟩) ?_ ?_
        rotate_left
        · intro w'
          go_simp
          with_reducible rfl
        rotate_left
        · simp only [Act.put, List.setIfInBounds_toArray, List.set_cons_zero, List.set_cons_succ, i64_w, i32_w]
          rfl
        refine pure_ (i := 20) (N := some 44) (v := ?_) (a' := ?_) #[true, true, true, true, true, false, false, false, true, true, true, true, true, false, false, false, false, true, true, true, true, false, false, false, false, false, false, false, false, false, false, false, false, false, false, false] rfl rfl (by kernel_rfl) (fun _ _ _ h => h) (Or.inl ⟨by rfl, ?_⟩) ?_ ?_
        rotate_left
        · intro w'
          go_simp
          with_reducible rfl
        rotate_left
        · simp only [Act.put, List.setIfInBounds_toArray, List.set_cons_zero, List.set_cons_succ, i64_w, i32_w]
          rfl
        refine pure_ (i := 21) (N := some 45) (v := ?_) (a' := ?_) #[true, true, true, true, true, false, false, false, true, true, true, true, true, false, false, false, false, true, true, true, true, true, false, false, false, false, false, false, false, false, false, false, false, false, false, false] rfl rfl (by kernel_rfl) (fun _ _ _ h => h) (Or.inl ⟨by rfl, ?_⟩) ?_ ?_
        rotate_left
        · intro w'
          go_simp
          with_reducible rfl
        rotate_left
        · simp only [Act.put, List.setIfInBounds_toArray, List.set_cons_zero, List.set_cons_succ, i64_w, i32_w]
          rfl
        refine pure_ (i := 26) (N := some 50) (v := ?_) (a' := ?_) #[true, true, true, true, true, false, false, false, true, true, true, true, true, false, false, false, false, true, true, true, true, true, false, false, false, false, true, false, false, false, false, false, false, false, false, false] rfl rfl (by kernel_rfl) (fun _ _ _ h => h) (Or.inl ⟨by rfl, ?_⟩) ?_ ?_
        rotate_left
        · intro w'
          go_simp
          with_reducible rfl
        rotate_left
        · simp only [Act.put, List.setIfInBounds_toArray, List.set_cons_zero, List.set_cons_succ, i64_w, i32_w]
          rfl
        refine pure_ (i := 27) (N := some 51) (v := ?_) (a' := ?_) #[true, true, true, true, true, false, false, false, true, true, true, true, true, false, false, false, false, true, true, true, true, true, false, false, false, false, true, true, false, false, false, false, false, false, false, false] rfl rfl (by kernel_rfl) (fun _ _ _ h => h) (Or.inl ⟨by rfl, ?_⟩) ?_ ?_
        rotate_left
        · intro w'
          go_simp
          with_reducible rfl
        rotate_left
        · simp only [Act.put, List.setIfInBounds_toArray, List.set_cons_zero, List.set_cons_succ, i64_w, i32_w]
          rfl
        refine pure_ (i := 28) (N := some 52) (v := ?_) (a' := ?_) #[true, true, true, true, true, false, false, false, true, true, true, true, true, false, false, false, false, true, true, true, true, true, false, false, false, false, true, true, true, false, false, false, false, false, false, false] rfl rfl (by kernel_rfl) (fun _ _ _ h => h) (Or.inl ⟨by rfl, ?_⟩) ?_ ?_
        rotate_left
        · intro w'
          go_simp
          with_reducible rfl
        rotate_left
        · simp only [Act.put, List.setIfInBounds_toArray, List.set_cons_zero, List.set_cons_succ, i64_w, i32_w]
          rfl
        refine pure_ (i := 29) (N := some 53) (v := ?_) (a' := ?_) #[true, true, true, true, true, false, false, false, true, true, true, true, true, false, false, false, false, true, true, true, true, true, false, false, false, false, true, true, true, true, false, false, false, false, false, false] rfl rfl (by kernel_rfl) (fun _ _ _ h => h) (Or.inl ⟨by rfl, ?_⟩) ?_ ?_
        rotate_left
        · intro w'
          go_simp
          with_reducible rfl
        rotate_left
        · simp only [Act.put, List.setIfInBounds_toArray, List.set_cons_zero, List.set_cons_succ, i64_w, i32_w]
          rfl
        refine pure_ (i := 30) (N := some 54) (v := ?_) (a' := ?_) #[true, true, true, true, true, false, false, false, true, true, true, true, true, false, false, false, false, true, true, true, true, true, false, false, false, false, true, true, true, true, true, false, false, false, false, false] rfl rfl (by kernel_rfl) (fun _ _ _ h => h) (Or.inl ⟨by rfl, ?_⟩) ?_ ?_
        rotate_left
        · intro w'
          go_simp
          with_reducible rfl
        rotate_left
        · simp only [Act.put, List.setIfInBounds_toArray, List.set_cons_zero, List.set_cons_succ, i64_w, i32_w]
          rfl
        refine take_ (i := 5) (N := some 29) (v := ?_) (a' := ?_) #[true, true, true, true, true, true, false, false, true, true, true, true, true, false, false, false, false, true, true, true, true, true, false, false, false, false, true, true, true, true, true, false, false, false, false, false] rfl rfl (by kernel_rfl) (fun _ _ _ h => h) (Or.inl ⟨by rfl, ?_⟩) hHeld ?_ ?_
        rotate_left
        · rintro w' ⟨s0, s1, s2, s3⟩
          go_simp
          with_reducible rfl
        rotate_left
        · simp only [Act.put, List.setIfInBounds_toArray, List.set_cons_zero, List.set_cons_succ, i64_w, i32_w]
          rfl
        refine pure_ (i := 6) (N := some 30) (v := ?_) (a' := ?_) #[true, true, true, true, true, true, true, false, true, true, true, true, true, false, false, false, false, true, true, true, true, true, false, false, false, false, true, true, true, true, true, false, false, false, false, false] rfl rfl (by kernel_rfl) (fun _ _ _ h => h) (Or.inl ⟨by rfl, ?_⟩) ?_ ?_
        rotate_left
        · intro w'
          go_simp
          with_reducible rfl
        rotate_left
        · simp only [Act.put, List.setIfInBounds_toArray, List.set_cons_zero, List.set_cons_succ, i64_w, i32_w]
          rfl
        refine pure_ (i := 7) (N := some 31) (v := ?_) (a' := ?_) #[true, true, true, true, true, true, true, true, true, true, true, true, true, false, false, false, false, true, true, true, true, true, false, false, false, false, true, true, true, true, true, false, false, false, false, false] rfl rfl (by kernel_rfl) (fun _ _ _ h => h) (Or.inl ⟨by rfl, ?_⟩) ?_ ?_
        rotate_left
        · intro w'
          go_simp
          with_reducible rfl
        rotate_left
        · simp only [Act.put, List.setIfInBounds_toArray, List.set_cons_zero, List.set_cons_succ, i64_w, i32_w]
          rfl
        refine take_ (i := 13) (N := some 37) (v := ?_) (a' := ?_) #[true, true, true, true, true, true, true, true, true, true, true, true, true, true, false, false, false, true, true, true, true, true, false, false, false, false, true, true, true, true, true, false, false, false, false, false] rfl rfl (by kernel_rfl) (fun _ _ _ h => h) (Or.inl ⟨by rfl, ?_⟩) hHeld ?_ ?_
        rotate_left
        · rintro w' ⟨s0, s1, s2, s3⟩
          go_simp
          with_reducible rfl
        rotate_left
        · simp only [Act.put, List.setIfInBounds_toArray, List.set_cons_zero, List.set_cons_succ, i64_w, i32_w]
          rfl
        refine pure_ (i := 14) (N := some 38) (v := ?_) (a' := ?_) #[true, true, true, true, true, true, true, true, true, true, true, true, true, true, true, false, false, true, true, true, true, true, false, false, false, false, true, true, true, true, true, false, false, false, false, false] rfl rfl (by kernel_rfl) (fun _ _ _ h => h) (Or.inl ⟨by rfl, ?_⟩) ?_ ?_
        rotate_left
        · intro w'
          go_simp
          with_reducible rfl
        rotate_left
        · simp only [Act.put, List.setIfInBounds_toArray, List.set_cons_zero, List.set_cons_succ, i64_w, i32_w]
          rfl
        refine pure_ (i := 15) (N := some 39) (v := ?_) (a' := ?_) #[true, true, true, true, true, true, true, true, true, true, true, true, true, true, true, true, false, true, true, true, true, true, false, false, false, false, true, true, true, true, true, false, false, false, false, false] rfl rfl (by kernel_rfl) (fun _ _ _ h => h) (Or.inl ⟨by rfl, ?_⟩) ?_ ?_
        rotate_left
        · intro w'
          go_simp
          with_reducible rfl
        rotate_left
        · simp only [Act.put, List.setIfInBounds_toArray, List.set_cons_zero, List.set_cons_succ, i64_w, i32_w]
          rfl
        refine pure_ (i := 16) (N := some 40) (v := ?_) (a' := ?_) #[true, true, true, true, true, true, true, true, true, true, true, true, true, true, true, true, true, true, true, true, true, true, false, false, false, false, true, true, true, true, true, false, false, false, false, false] rfl rfl (by kernel_rfl) (fun _ _ _ h => h) (Or.inl ⟨by rfl, ?_⟩) ?_ ?_
        rotate_left
        · intro w'
          go_simp
          with_reducible rfl
        rotate_left
        · simp only [Act.put, List.setIfInBounds_toArray, List.set_cons_zero, List.set_cons_succ, i64_w, i32_w]
          rfl
        refine take_ (i := 22) (N := some 46) (v := ?_) (a' := ?_) #[true, true, true, true, true, true, true, true, true, true, true, true, true, true, true, true, true, true, true, true, true, true, true, false, false, false, true, true, true, true, true, false, false, false, false, false] rfl rfl (by kernel_rfl) (fun _ _ _ h => h) (Or.inl ⟨by rfl, ?_⟩) hHeld ?_ ?_
        rotate_left
        · rintro w' ⟨s0, s1, s2, s3⟩
          go_simp
          with_reducible rfl
        rotate_left
        · simp only [Act.put, List.setIfInBounds_toArray, List.set_cons_zero, List.set_cons_succ, i64_w, i32_w]
          rfl
        refine pure_ (i := 23) (N := some 47) (v := ?_) (a' := ?_) #[true, true, true, true, true, true, true, true, true, true, true, true, true, true, true, true, true, true, true, true, true, true, true, true, false, false, true, true, true, true, true, false, false, false, false, false] rfl rfl (by kernel_rfl) (fun _ _ _ h => h) (Or.inl ⟨by rfl, ?_⟩) ?_ ?_
        rotate_left
        · intro w'
          go_simp
          with_reducible rfl
        rotate_left
        · simp only [Act.put, List.setIfInBounds_toArray, List.set_cons_zero, List.set_cons_succ, i64_w, i32_w]
          rfl
        refine pure_ (i := 24) (N := some 48) (v := ?_) (a' := ?_) #[true, true, true, true, true, true, true, true, true, true, true, true, true, true, true, true, true, true, true, true, true, true, true, true, true, false, true, true, true, true, true, false, false, false, false, false] rfl rfl (by kernel_rfl) (fun _ _ _ h => h) (Or.inl ⟨by rfl, ?_⟩) ?_ ?_
        rotate_left
        · intro w'
          go_simp
          with_reducible rfl
        rotate_left
        · simp only [Act.put, List.setIfInBounds_toArray, List.set_cons_zero, List.set_cons_succ, i64_w, i32_w]
          rfl
        refine pure_ (i := 25) (N := some 49) (v := ?_) (a' := ?_) #[true, true, true, true, true, true, true, true, true, true, true, true, true, true, true, true, true, true, true, true, true, true, true, true, true, true, true, true, true, true, true, false, false, false, false, false] rfl rfl (by kernel_rfl) (fun _ _ _ h => h) (Or.inl ⟨by rfl, ?_⟩) ?_ ?_
        rotate_left
        · intro w'
          go_simp
          with_reducible rfl
        rotate_left
        · simp only [Act.put, List.setIfInBounds_toArray, List.set_cons_zero, List.set_cons_succ, i64_w, i32_w]
          rfl
        refine take_ (i := 31) (N := some 55) (v := ?_) (a' := ?_) #[true, true, true, true, true, true, true, true, true, true, true, true, true, true, true, true, true, true, true, true, true, true, true, true, true, true, true, true, true, true, true, true, false, false, false, false] rfl rfl (by kernel_rfl) (fun _ _ _ h => h) (Or.inl ⟨by rfl, ?_⟩) hHeld ?_ ?_
        rotate_left
        · rintro w' ⟨s0, s1, s2, s3⟩
          go_simp
          with_reducible rfl
        rotate_left
        · simp only [Act.put, List.setIfInBounds_toArray, List.set_cons_zero, List.set_cons_succ, i64_w, i32_w]
          rfl
        refine pure_ (i := 32) (N := some 56) (v := ?_) (a' := ?_) #[true, true, true, true, true, true, true, true, true, true, true, true, true, true, true, true, true, true, true, true, true, true, true, true, true, true, true, true, true, true, true, true, true, false, false, false] rfl rfl (by kernel_rfl) (fun _ _ _ h => h) (Or.inl ⟨by rfl, ?_⟩) ?_ ?_
        rotate_left
        · intro w'
          go_simp
          with_reducible rfl
        rotate_left
        · simp only [Act.put, List.setIfInBounds_toArray, List.set_cons_zero, List.set_cons_succ, i64_w, i32_w]
          rfl
        refine pure_ (i := 33) (N := some 57) (v := ?_) (a' := ?_) #[true, true, true, true, true, true, true, true, true, true, true, true, true, true, true, true, true, true, true, true, true, true, true, true, true, true, true, true, true, true, true, true, true, true, false, false] rfl rfl (by kernel_rfl) (fun _ _ _ h => h) (Or.inl ⟨by rfl, ?_⟩) ?_ ?_
        rotate_left
        · intro w'
          go_simp
          with_reducible rfl
        rotate_left
        · simp only [Act.put, List.setIfInBounds_toArray, List.set_cons_zero, List.set_cons_succ, i64_w, i32_w]
          rfl
        refine pure_ (i := 34) (N := some 58) (v := ?_) (a' := ?_) #[true, true, true, true, true, true, true, true, true, true, true, true, true, true, true, true, true, true, true, true, true, true, true, true, true, true, true, true, true, true, true, true, true, true, true, false] rfl rfl (by kernel_rfl) (fun _ _ _ h => h) (Or.inl ⟨by rfl, ?_⟩) ?_ ?_
        rotate_left
        · intro w'
          go_simp
          with_reducible rfl
        rotate_left
        · simp only [Act.put, List.setIfInBounds_toArray, List.set_cons_zero, List.set_cons_succ, i64_w, i32_w]
          rfl
        refine last_ (i := 35) (N := none) #[true, true, true, true, true, true, true, true, true, true, true, true, true, true, true, true, true, true, true, true, true, true, true, true, true, true, true, true, true, true, true, true, true, true, true, true] rfl rfl (by kernel_rfl) (by decide) (fun K hK => ?_)
        refine skip_ (w1 := ?_) (by rfl) rfl ?_ ?_
        rotate_left
        · go_simp
          rfl
        refine hK.out _ _ ?_
        clear hK K
        refine done_ (by kernel_rfl) ?_
        go_wp2
        go_roundw
        case rel => exact ⟨k + 1, by omega, by go_num, by rw [Ws, HX.out]; exact (HS.out.setW k _).drew⟩
        case measure => simp [intOf]; omega
    by_cases hlt2 : k < 64
    · as_aux_lemma =>
        obtain ⟨a15, h15⟩ : ∃ a, a + 15 = k := ⟨k - 15, by omega⟩
        obtain ⟨a16, h16⟩ : ∃ a, a + 16 = k := ⟨k - 16, by omega⟩
        obtain ⟨a7, h7⟩ : ∃ a, a + 7 = k := ⟨k - 7, by omega⟩
        obtain ⟨a2, h2⟩ : ∃ a, a + 2 = k := ⟨k - 2, by omega⟩
        have u15 : wrap64 ((k : Int) - 15) = (a15 : Int) := by unfold wrap64; omega
        have t15 : IntKind.i64.wrap ((k : Int) - 15) = (a15 : Int) := by rw [IntKind.wrap_i64]; omega
        have u16 : wrap64 ((k : Int) - 16) = (a16 : Int) := by unfold wrap64; omega
        have t16 : IntKind.i64.wrap ((k : Int) - 16) = (a16 : Int) := by rw [IntKind.wrap_i64]; omega
        have u7 : wrap64 ((k : Int) - 7) = (a7 : Int) := by unfold wrap64; omega
        have t7 : IntKind.i64.wrap ((k : Int) - 7) = (a7 : Int) := by rw [IntKind.wrap_i64]; omega
        have u2 : wrap64 ((k : Int) - 2) = (a2 : Int) := by unfold wrap64; omega
        have t2 : IntKind.i64.wrap ((k : Int) - 2) = (a2 : Int) := by rw [IntKind.wrap_i64]; omega
        have hc15 := at32_cell hS.bw (i := a15) (by rw [Ws_length]; omega)
        have hc2 := at32_cell hS.bw (i := a2) (by rw [Ws_length]; omega)
        have HX : Hid (word m (Ws m k) k = nx (at32 (Ws m k) a16) (at32 (Ws m k) a15) (at32 (Ws m k) a7) (at32 (Ws m k) a2)) := by
          have e : word m (Ws m k) k = _ := if_neg hlt
          rw [e]
          rw [show k - 16 = a16 by omega, show k - 15 = a15 by omega, show k - 7 = a7 by omega, show k - 2 = a2 by omega]
          rfl
        have q0 : ¬ (k : Int) < 16 := by omega
        have q1 : (0 : Int) ≤ (k : Int) := by omega
        have q2 : (k : Int) < 64 := by omega
        have n15 : (0 : Int) ≤ (a15 : Int) := by omega
        have n16 : (0 : Int) ≤ (a16 : Int) := by omega
        have n7 : (0 : Int) ≤ (a7 : Int) := by omega
        have n2 : (0 : Int) ≤ (a2 : Int) := by omega
        have p15 : (a15 : Int) < 64 := by omega
        have p16 : (a16 : Int) < 64 := by omega
        have p7 : (a7 : Int) < 64 := by omega
        have p2 : (a2 : Int) < 64 := by omega
        have HS := Aside0.mk hS
        have Hl := Aside0.mk (show a16 < 64 ∧ a7 < 64 by omega)
        clear hS h15 h16 h7 h2 hm
        have HW := Aside0.mk (Ws_length m k)
        generalize hx15 : at32 (Ws m k) a15 = x15 at *
        generalize hx2 : at32 (Ws m k) a2 = x2 at *
        clear hx15 hx2
        have T7 := Aside0.mk (rot31 7 x15 (by decide))
        have T18 := Aside0.mk (rot31 18 x15 (by decide))
        have T17 := Aside0.mk (rot31 17 x2 (by decide))
        have T19 := Aside0.mk (rot31 19 x2 (by decide))
        go_wp2
        go_quiet (fail)
        replace HS := Aside0.mk (HS.out.drewN nq)
        clear hc15 hc2
        generalize wr.drewN nq = wr1 at *
        go_wp2_with (first
          | (go_at_call 31; with_reducible refine (T7.out _).mono ?_; rintro e wa ⟨rfl, hd⟩; replace HS := Aside0.mk (HS.out.drawn hd); clear hd T7)
          | (go_at_call 31; with_reducible refine (T18.out _).mono ?_; rintro e wa ⟨rfl, hd⟩; replace HS := Aside0.mk (HS.out.drawn hd); clear hd T18)
          | (go_at_call 31; with_reducible refine (T17.out _).mono ?_; rintro e wa ⟨rfl, hd⟩; replace HS := Aside0.mk (HS.out.drawn hd); clear hd T17)
          | (go_at_call 31; with_reducible refine (T19.out _).mono ?_; rintro e wa ⟨rfl, hd⟩; replace HS := Aside0.mk (HS.out.drawn hd); clear hd T19))
        have hcw := at32_cell HS.out.bw (i := k) (by rw [HW.out]; omega)
        have hc16 := at32_cell HS.out.bw (i := a16) (by rw [HW.out]; exact Hl.out.1)
        have hc7 := at32_cell HS.out.bw (i := a7) (by rw [HW.out]; exact Hl.out.2)
        have hfr := frozen_of_row _ _ k _ _ HS.out.bw
        generalize at32 (Ws m k) k = xw at *
        generalize at32 (Ws m k) a16 = x16 at *
        generalize at32 (Ws m k) a7 = x7 at *
        refine start_ (n := 16) (S := fun w' => w'.cell? ⟨b + 1, a16, none⟩ = some (Value.int IntKind.u32 x16) ∧ w'.cell? ⟨b + 1, a7, none⟩ = some (Value.int IntKind.u32 x7)) (ds := [15]) #[false, false, false, false, false, false, false, false, false, false, false, false, false, false, false, false] (by kernel_rfl) rfl rfl ⟨hc16, hc7⟩ (fun hHeld => ?_)
        refine pure_ (i := 0) (N := some 83) (v := ?_) (a' := ?_) #[true, false, false, false, false, false, false, false, false, false, false, false, false, false, false, false] rfl rfl (by kernel_rfl) (fun _ _ _ h => h) (Or.inl ⟨by rfl, ?_⟩) ?_ ?_
        rotate_left
        · intro w'
          go_simp
          with_reducible rfl
        rotate_left
        · simp only [Act.put, List.setIfInBounds_toArray, List.set_cons_zero, List.set_cons_succ, i64_w, i32_w]
          rfl
        refine pure_ (i := 1) (N := some 84) (v := ?_) (a' := ?_) #[true, true, false, false, false, false, false, false, false, false, false, false, false, false, false, false] rfl rfl (by kernel_rfl) (fun _ _ _ h => h) (Or.inl ⟨by rfl, ?_⟩) ?_ ?_
        rotate_left
        · intro w'
          go_simp
          with_reducible rfl
        rotate_left
        · simp only [Act.put, List.setIfInBounds_toArray, List.set_cons_zero, List.set_cons_succ, i64_w, i32_w]
          rfl
        refine pure_ (i := 2) (N := some 85) (v := ?_) (a' := ?_) #[true, true, true, false, false, false, false, false, false, false, false, false, false, false, false, false] rfl rfl (by kernel_rfl) (fun _ _ _ h => h) (Or.inl ⟨by rfl, ?_⟩) ?_ ?_
        rotate_left
        · intro w'
          go_simp
          with_reducible rfl
        rotate_left
        · simp only [Act.put, List.setIfInBounds_toArray, List.set_cons_zero, List.set_cons_succ, i64_w, i32_w]
          rfl
        refine pure_ (i := 3) (N := some 86) (v := ?_) (a' := ?_) #[true, true, true, true, false, false, false, false, false, false, false, false, false, false, false, false] rfl rfl (by kernel_rfl) (fun _ _ _ h => h) (Or.inl ⟨by rfl, ?_⟩) ?_ ?_
        rotate_left
        · intro w'
          go_simp
          with_reducible rfl
        rotate_left
        · simp only [Act.put, List.setIfInBounds_toArray, List.set_cons_zero, List.set_cons_succ, i64_w, i32_w]
          rfl
        refine pure_ (i := 5) (N := some 88) (v := ?_) (a' := ?_) #[true, true, true, true, false, true, false, false, false, false, false, false, false, false, false, false] rfl rfl (by kernel_rfl) (fun _ _ _ h => h) (Or.inl ⟨by rfl, ?_⟩) ?_ ?_
        rotate_left
        · intro w'
          go_simp
          with_reducible rfl
        rotate_left
        · simp only [Act.put, List.setIfInBounds_toArray, List.set_cons_zero, List.set_cons_succ, i64_w, i32_w]
          rfl
        refine pure_ (i := 7) (N := some 90) (v := ?_) (a' := ?_) #[true, true, true, true, false, true, false, true, false, false, false, false, false, false, false, false] rfl rfl (by kernel_rfl) (fun _ _ _ h => h) (Or.inl ⟨by rfl, ?_⟩) ?_ ?_
        rotate_left
        · intro w'
          go_simp
          with_reducible rfl
        rotate_left
        · simp only [Act.put, List.setIfInBounds_toArray, List.set_cons_zero, List.set_cons_succ, i64_w, i32_w]
          rfl
        refine pure_ (i := 8) (N := some 91) (v := ?_) (a' := ?_) #[true, true, true, true, false, true, false, true, true, false, false, false, false, false, false, false] rfl rfl (by kernel_rfl) (fun _ _ _ h => h) (Or.inl ⟨by rfl, ?_⟩) ?_ ?_
        rotate_left
        · intro w'
          go_simp
          with_reducible rfl
        rotate_left
        · simp only [Act.put, List.setIfInBounds_toArray, List.set_cons_zero, List.set_cons_succ, i64_w, i32_w]
          rfl
        refine pure_ (i := 9) (N := some 92) (v := ?_) (a' := ?_) #[true, true, true, true, false, true, false, true, true, true, false, false, false, false, false, false] rfl rfl (by kernel_rfl) (fun _ _ _ h => h) (Or.inl ⟨by rfl, ?_⟩) ?_ ?_
        rotate_left
        · intro w'
          go_simp
          with_reducible rfl
        rotate_left
        · simp only [Act.put, List.setIfInBounds_toArray, List.set_cons_zero, List.set_cons_succ, i64_w, i32_w]
          rfl
        refine pure_ (i := 12) (N := some 95) (v := ?_) (a' := ?_) #[true, true, true, true, false, true, false, true, true, true, false, false, true, false, false, false] rfl rfl (by kernel_rfl) (fun _ _ _ h => h) (Or.inl ⟨by rfl, ?_⟩) ?_ ?_
        rotate_left
        · intro w'
          go_simp
          with_reducible rfl
        rotate_left
        · simp only [Act.put, List.setIfInBounds_toArray, List.set_cons_zero, List.set_cons_succ, i64_w, i32_w]
          rfl
        refine take_ (i := 4) (N := some 87) (v := ?_) (a' := ?_) #[true, true, true, true, true, true, false, true, true, true, false, false, true, false, false, false] rfl rfl (by kernel_rfl) (fun _ _ _ h => h) (Or.inl ⟨by rfl, ?_⟩) hHeld ?_ ?_
        rotate_left
        · rintro w' ⟨s0, s1⟩
          go_simp
          with_reducible rfl
        rotate_left
        · simp only [Act.put, List.setIfInBounds_toArray, List.set_cons_zero, List.set_cons_succ, i64_w, i32_w]
          rfl
        refine pure_ (i := 6) (N := some 89) (v := ?_) (a' := ?_) #[true, true, true, true, true, true, true, true, true, true, false, false, true, false, false, false] rfl rfl (by kernel_rfl) (fun _ _ _ h => h) (Or.inl ⟨by rfl, ?_⟩) ?_ ?_
        rotate_left
        · intro w'
          go_simp
          with_reducible rfl
        rotate_left
        · simp only [Act.put, List.setIfInBounds_toArray, List.set_cons_zero, List.set_cons_succ, i64_w, i32_w]
          rfl
        refine take_ (i := 10) (N := some 93) (v := ?_) (a' := ?_) #[true, true, true, true, true, true, true, true, true, true, true, false, true, false, false, false] rfl rfl (by kernel_rfl) (fun _ _ _ h => h) (Or.inl ⟨by rfl, ?_⟩) hHeld ?_ ?_
        rotate_left
        · rintro w' ⟨s0, s1⟩
          go_simp
          with_reducible rfl
        rotate_left
        · simp only [Act.put, List.setIfInBounds_toArray, List.set_cons_zero, List.set_cons_succ, i64_w, i32_w]
          rfl
        refine pure_ (i := 11) (N := some 94) (v := ?_) (a' := ?_) #[true, true, true, true, true, true, true, true, true, true, true, true, true, false, false, false] rfl rfl (by kernel_rfl) (fun _ _ _ h => h) (Or.inl ⟨by rfl, ?_⟩) ?_ ?_
        rotate_left
        · intro w'
          go_simp
          with_reducible rfl
        rotate_left
        · simp only [Act.put, List.setIfInBounds_toArray, List.set_cons_zero, List.set_cons_succ, i64_w, i32_w]
          rfl
        refine pure_ (i := 13) (N := some 96) (v := ?_) (a' := ?_) #[true, true, true, true, true, true, true, true, true, true, true, true, true, true, false, false] rfl rfl (by kernel_rfl) (fun _ _ _ h => h) (Or.inl ⟨by rfl, ?_⟩) ?_ ?_
        rotate_left
        · intro w'
          go_simp
          with_reducible rfl
        rotate_left
        · simp only [Act.put, List.setIfInBounds_toArray, List.set_cons_zero, List.set_cons_succ, i64_w, i32_w]
          rfl
        refine pure_ (i := 14) (N := some 97) (v := ?_) (a' := ?_) #[true, true, true, true, true, true, true, true, true, true, true, true, true, true, true, false] rfl rfl (by kernel_rfl) (fun _ _ _ h => h) (Or.inl ⟨by rfl, ?_⟩) ?_ ?_
        rotate_left
        · intro w'
          go_simp
          with_reducible rfl
        rotate_left
        · simp only [Act.put, List.setIfInBounds_toArray, List.set_cons_zero, List.set_cons_succ, i64_w, i32_w]
          rfl
        refine last_ (i := 15) (N := none) #[true, true, true, true, true, true, true, true, true, true, true, true, true, true, true, true] rfl rfl (by kernel_rfl) (by decide) (fun K hK => ?_)
        refine skip_ (w1 := ?_) (by rfl) rfl ?_ ?_
        rotate_left
        · go_simp
          rfl
        refine hK.out _ _ ?_
        clear hK K
        refine done_ (by kernel_rfl) ?_
        go_wp2
        go_roundw
        case rel => exact ⟨k + 1, by omega, by go_num, by rw [Ws, HX.out]; exact (HS.out.setW k _).drew⟩
        case measure => simp [intOf]; omega
    obtain rfl : k = 64 := by omega
    have hv : b + 1 < wr.heap.size := heap_lt hS.bw
    have HI := Aside0.mk (show ∀ l : List Int, l.length = 8 → (Try.prog.info? 49).map (·.size) = some (u32s l).size from fun l hl => by rw [u32s_size, hl]; exact zero49.2)
    have HH := Aside0.mk (show wr.rangeAt g 0 (h.map (Value.int .u32)) from fun j u hu => by
      rw [Nat.zero_add]
      have hj : j < h.length := by simpa using (List.getElem?_eq_some_iff.1 hu).1
      rw [dig_cell hS.bh hj, ← hu]
      simp [at32, hj])
    have HC := Aside0.mk (show comp h Kc m = As h (Vs h Kc (Ws m 64) 64) 8 from rfl)
    have hWl : (Ws m 64).length = 64 := Ws_length m 64
    generalize Ws m 64 = W at *
    have HS := Aside0.mk hS
    clear hS hm hlt hlt2 hk
    go_wp2_with (first
      | ((with_reducible refine gate_dst (N := 101) rfl ?_); refine wpList_load_mid rfl 49 (.tmp 100) rfl g 0 rfl (h.map (Value.int .u32)) _ HH.out Try.underlying49 rfl (by rw [List.length_map, hh]; exact zero49.2) ?_)
      | ((with_reducible refine gate_dst (N := 11) rfl ?_); refine step_alloc rfl 49 rfl (u32s z8) zero49.1 ?_)
      | ((with_reducible refine gate_store (t := 49) (p := 11) (v := .tmp 101) rfl ?_); refine wpList_store_row rfl 49 (.tmp 11) (.tmp 101) rfl wr.heap.size (u32s h) rfl rfl 49 (u32s z8) (blk_new wr _) (HI.out h hh) (by rw [u32s_size, u32s_size, hh]; rfl) (u32s_one h) ?_; rw [World.setRow_alloc_new]))
    replace HS := Aside0.mk (HS.out.alloc (.cells (u32s h) 49))
    have HV := blk_new wr (.cells (u32s h) 49)
    clear HH
    generalize wr.alloc (.cells (u32s h) 49) = w1 at *
    generalize wr.heap.size = v at *
    go_loopw [102, 12, 13, 14, 15, 16] (fun i _ _ _ _ _ wr => ∃ k : Nat, k ≤ 64 ∧ i = .int .i64 (k : Nat) ∧ Mx w wr none g h x y b Kc W ∧ wr.heap[v]? = some (.cells (u32s (Vs h Kc W k)) 49 (0, 0))) (fun i _ _ _ _ _ _ => 64 - (intOf i).toNat)
    case atStart => exact ⟨0, by omega, rfl, HS.out, HV⟩
    case round =>
      clear HS HV
      obtain ⟨k, hk, rfl, hS, hV⟩ := hrel
      by_cases hlt : k < 64
      · as_aux_lemma =>
          have hvl := Vs_length h Kc W hh k
          have hcW := at32_cell hS.bw (i := k) (by omega)
          have hcK := at32_cell hS.bk (i := k) (by rw [Kc_length]; omega)
          have HX := Aside0.mk (show Vs h Kc W (k + 1) = rnd (Vs h Kc W k) (at32 Kc k) (at32 W k) from rfl)
          generalize Vs h Kc W k = V at *
          match V, hvl with
          | [v0, v1, v2, v3, v4, v5, v6, v7], _ =>
            have hc0 : wr.cell? ⟨v, 0, none⟩ = some (.int .u32 v0) := at32_cell hV (i := 0) (by simp)
            have hc1 : wr.cell? ⟨v, 1, none⟩ = some (.int .u32 v1) := at32_cell hV (i := 1) (by simp)
            have hc2 : wr.cell? ⟨v, 2, none⟩ = some (.int .u32 v2) := at32_cell hV (i := 2) (by simp)
            have hc3 : wr.cell? ⟨v, 3, none⟩ = some (.int .u32 v3) := at32_cell hV (i := 3) (by simp)
            have hc4 : wr.cell? ⟨v, 4, none⟩ = some (.int .u32 v4) := at32_cell hV (i := 4) (by simp)
            have hc5 : wr.cell? ⟨v, 5, none⟩ = some (.int .u32 v5) := at32_cell hV (i := 5) (by simp)
            have hc6 : wr.cell? ⟨v, 6, none⟩ = some (.int .u32 v6) := at32_cell hV (i := 6) (by simp)
            have hc7 : wr.cell? ⟨v, 7, none⟩ = some (.int .u32 v7) := at32_cell hV (i := 7) (by simp)
            replace HX := Aside0.mk (show Vs h Kc W (k + 1) = rnd8 v0 v1 v2 v3 v4 v5 v6 v7 (at32 Kc k) (at32 W k) from HX.out)
            have HS := Aside0.mk hS
            have HV := Aside0.mk hV
            clear hS hV
            have q1 : (0 : Int) ≤ (k : Int) := by omega
            have q2 : (k : Int) < 64 := by omega
            generalize at32 W k = xw at *
            generalize at32 Kc k = xk at *
            have T6 := Aside0.mk (rot31 6 v4 (by decide))
            have T11 := Aside0.mk (rot31 11 v4 (by decide))
            have T25 := Aside0.mk (rot31 25 v4 (by decide))
            have T2 := Aside0.mk (rot31 2 v0 (by decide))
            have T13 := Aside0.mk (rot31 13 v0 (by decide))
            have T22 := Aside0.mk (rot31 22 v0 (by decide))
            go_wp2
            go_quiet (fail)
            replace hc0 := (show (wr.drewN nq).cell? _ = _ from hc0)
            replace hc1 := (show (wr.drewN nq).cell? _ = _ from hc1)
            replace hc2 := (show (wr.drewN nq).cell? _ = _ from hc2)
            replace hc3 := (show (wr.drewN nq).cell? _ = _ from hc3)
            replace hc4 := (show (wr.drewN nq).cell? _ = _ from hc4)
            replace hc5 := (show (wr.drewN nq).cell? _ = _ from hc5)
            replace hc6 := (show (wr.drewN nq).cell? _ = _ from hc6)
            replace hc7 := (show (wr.drewN nq).cell? _ = _ from hc7)
            replace hcW := (show (wr.drewN nq).cell? _ = _ from hcW)
            replace hcK := (show (wr.drewN nq).cell? _ = _ from hcK)
            replace HS := Aside0.mk (HS.out.drewN nq)
            replace HV := Aside0.mk (show (wr.drewN nq).heap[v]? = _ from HV.out)
            generalize wr.drewN nq = wr1 at *
            go_wp2
            go_quiet (first | (go_at_call 31; with_reducible exact quiet_drawn T6.out) | (go_at_call 31; with_reducible exact quiet_drawn T11.out) | (go_at_call 31; with_reducible exact quiet_drawn T25.out))
            replace hc0 := (show (wr1.drewN nq).cell? _ = _ from hc0)
            replace hc1 := (show (wr1.drewN nq).cell? _ = _ from hc1)
            replace hc2 := (show (wr1.drewN nq).cell? _ = _ from hc2)
            replace hc3 := (show (wr1.drewN nq).cell? _ = _ from hc3)
            replace hc4 := (show (wr1.drewN nq).cell? _ = _ from hc4)
            replace hc5 := (show (wr1.drewN nq).cell? _ = _ from hc5)
            replace hc6 := (show (wr1.drewN nq).cell? _ = _ from hc6)
            replace hc7 := (show (wr1.drewN nq).cell? _ = _ from hc7)
            replace hcW := (show (wr1.drewN nq).cell? _ = _ from hcW)
            replace hcK := (show (wr1.drewN nq).cell? _ = _ from hcK)
            replace HS := Aside0.mk (HS.out.drewN nq)
            replace HV := Aside0.mk (show (wr1.drewN nq).heap[v]? = _ from HV.out)
            clear T6 T11 T25
            generalize wr1.drewN nq = wr2 at *
            go_wp2
            go_quiet (first | (go_at_call 31; with_reducible exact quiet_drawn T2.out) | (go_at_call 31; with_reducible exact quiet_drawn T13.out) | (go_at_call 31; with_reducible exact quiet_drawn T22.out))
            replace hc0 := (show (wr2.drewN nq).cell? _ = _ from hc0)
            replace hc1 := (show (wr2.drewN nq).cell? _ = _ from hc1)
            replace hc2 := (show (wr2.drewN nq).cell? _ = _ from hc2)
            replace hc3 := (show (wr2.drewN nq).cell? _ = _ from hc3)
            replace hc4 := (show (wr2.drewN nq).cell? _ = _ from hc4)
            replace hc5 := (show (wr2.drewN nq).cell? _ = _ from hc5)
            replace hc6 := (show (wr2.drewN nq).cell? _ = _ from hc6)
            replace hc7 := (show (wr2.drewN nq).cell? _ = _ from hc7)
            replace hcW := (show (wr2.drewN nq).cell? _ = _ from hcW)
            replace hcK := (show (wr2.drewN nq).cell? _ = _ from hcK)
            replace HS := Aside0.mk (HS.out.drewN nq)
            replace HV := Aside0.mk (show (wr2.drewN nq).heap[v]? = _ from HV.out)
            clear T2 T13 T22
            generalize wr2.drewN nq = wr3 at *
            go_wp2
            have HSrc := Aside0.mk (show ∀ (W : World), W.heap = wr3.heap → ∀ j u, ([v0, v1, v2, v3, v4, v5, v6].map (Value.int .u32))[j]? = some u → W.cell? ((⟨v, 0, none⟩ : Addr).add j) = some u from fun W hW j u hu => by
              have hb : W.heap[v]? = some (.cells (u32s [v0, v1, v2, v3, v4, v5, v6, v7]) 49 (0, 0)) := by rw [hW]; exact HV.out
              rw [Addr.add_mid, cell_of_row W v _ _ 49 (0, 0) hb, Nat.zero_add, ← hu, u32s_get, ← List.getElem?_map]
              have hj : j < 7 := by simpa using (List.getElem?_eq_some_iff.1 hu).1
              match j, hj with
              | 0, _ => rfl
              | 1, _ => rfl
              | 2, _ => rfl
              | 3, _ => rfl
              | 4, _ => rfl
              | 5, _ => rfl
              | 6, _ => rfl)
            have HN := Aside0.mk (show ∀ W : World, W.heap = wr3.heap → W.os = wr3.os → W.tape = wr3.tape → W.output = wr3.output → Below v wr3 W from fun W h1 h2 h3 h4 => ⟨h2, h3, h4, by rw [h1]; exact Nat.le_refl _, fun k _ => by rw [h1]⟩)
            go_region_law (refine step_copy_splice rfl (.tmp 163) (.tmp 164) 68 68 rfl 48 Try.underlying68 info48 (some ⟨v, 1, none⟩) (some ⟨v, 0, none⟩) 7 7 7 8 rfl rfl v 1 ([v0, v1, v2, v3, v4, v5, v6, v7].map (Value.int .u32)) 49 HV.out ([v0, v1, v2, v3, v4, v5, v6].map (Value.int .u32)) rfl (fun _ => ⟨rfl, _, rfl, HSrc.out _ rfl⟩) (by simp) (one_of _) v wr3 (HN.out _ rfl rfl rfl rfl) (Nat.le_refl _) ?_; intro w4 hg4 hb4)
            have hV4 : w4.heap[v]? = some (.cells (u32s [v0, v0, v1, v2, v3, v4, v5, v6]) 49 (0, 0)) := hg4.out
            replace HS := Aside0.mk (HS.out.below hv hb4)
            have hd4 : w4.cell? ⟨v, 4, none⟩ = some (.int .u32 v3) := at32_cell hV4 (i := 4) (by simp)
            have hd0 : w4.cell? ⟨v, 0, none⟩ = some (.int .u32 v0) := at32_cell hV4 (i := 0) (by simp)
            have hf4 := frozen_of_row w4 v 4 _ _ hV4
            have hf0 := frozen_of_row w4 v 0 _ _ hV4
            replace HV := Aside0.mk hV4
            clear hc0 hc1 hc2 hc3 hc4 hc5 hc6 hc7 hcW hcK hg4 hb4 hV4
            have HE := Aside0.mk (show ∀ p q : Int, (v3 + p % 4294967296) % 4294967296 = (v3 + p) % 4294967296 ∧ (p % 4294967296 + q % 4294967296) % 4294967296 = (p + q) % 4294967296 from fun p q => ⟨by omega, by omega⟩)
            go_wp2
            go_roundw
            case rel =>
              refine ⟨k + 1, by omega, by go_num, (HS.out.setV hv _ _).setV hv _ _, ?_⟩
              rw [HX.out]
              have e := blkset (blkset HV.out 4 (.int .u32 ((v3 + oneV v4 v5 v6 v7 xk xw) % 4294967296))) 0 (.int .u32 ((oneV v4 v5 v6 v7 xk xw + twoV v0 v1 v2) % 4294967296))
              rw [u32s_set, u32s_set] at e
              exact e
            case measure => simp [intOf]; omega
      obtain rfl : k = 64 := by omega
      have hVl := Vs_length h Kc W hh 64
      generalize Vs h Kc W 64 = V at *
      have hL := hS.last
      clear hS hlt hk HI hWl
      go_wp2
      go_loopw [176, 17] (fun i _ wr => ∃ k : Nat, k ≤ 8 ∧ i = .int .i64 (k : Nat) ∧ Mx w wr (some g) g (As h V k) x y b Kc W ∧ wr.heap[v]? = some (.cells (u32s V) 49 (0, 0))) (fun i _ _ => 8 - (intOf i).toNat)
      case atStart => exact ⟨0, by omega, rfl, hL, hV⟩
      case round =>
        clear hL hV
        obtain ⟨k, hk, rfl, hS, hV⟩ := hrel
        by_cases hlt : k < 8
        · as_aux_lemma =>
            have hAl := As_length h V k
            have hch := dig_cell hS.bh (j := k) (by omega)
            have hcv := at32_cell hV (i := k) (by omega)
            have hfr := frozen_of_row wr _ k _ _ hS.bh
            have HX := Aside0.mk (show As h V (k + 1) = (As h V k).set k (IntKind.u32.wrap (at32 (As h V k) k + at32 V k)) from rfl)
            generalize at32 (As h V k) k = xh at *
            generalize at32 V k = xv at *
            have HS := Aside0.mk hS
            have HV := Aside0.mk hV
            have hgv : v ≠ g := by have := hS.hb; have := hS.hg; omega
            have q1 : (0 : Int) ≤ (k : Int) := by omega
            have q2 : (k : Int) < 8 := by omega
            clear hS hV
            go_wp2
            refine start_ (n := 12) (S := fun w' => w'.cell? ⟨g, k, none⟩ = some (Value.int IntKind.u32 xh) ∧ w'.cell? ⟨v, k, none⟩ = some (Value.int IntKind.u32 xv)) (ds := [11]) #[false, false, false, false, false, false, false, false, false, false, false, false] (by kernel_rfl) rfl rfl ⟨hch, hcv⟩ (fun hHeld => ?_)
            refine pure_ (i := 0) (N := some 179) (v := ?_) (a' := ?_) #[true, false, false, false, false, false, false, false, false, false, false, false] rfl rfl (by kernel_rfl) (fun _ _ _ h => h) (Or.inl ⟨by rfl, ?_⟩) ?_ ?_
            rotate_left
            · intro w'
              go_simp
              with_reducible rfl
            rotate_left
            · simp only [Act.put, List.setIfInBounds_toArray, List.set_cons_zero, List.set_cons_succ, i64_w, i32_w]
              rfl
            refine pure_ (i := 1) (N := some 180) (v := ?_) (a' := ?_) #[true, true, false, false, false, false, false, false, false, false, false, false] rfl rfl (by kernel_rfl) (fun _ _ _ h => h) (Or.inl ⟨by rfl, ?_⟩) ?_ ?_
            rotate_left
            · intro w'
              go_simp
              with_reducible rfl
            rotate_left
            · simp only [Act.put, List.setIfInBounds_toArray, List.set_cons_zero, List.set_cons_succ, i64_w, i32_w]
              rfl
            refine pure_ (i := 2) (N := some 181) (v := ?_) (a' := ?_) #[true, true, true, false, false, false, false, false, false, false, false, false] rfl rfl (by kernel_rfl) (fun _ _ _ h => h) (Or.inl ⟨by rfl, ?_⟩) ?_ ?_
            rotate_left
            · intro w'
              go_simp
              with_reducible rfl
            rotate_left
            · simp only [Act.put, List.setIfInBounds_toArray, List.set_cons_zero, List.set_cons_succ, i64_w, i32_w]
              rfl
            refine pure_ (i := 3) (N := some 182) (v := ?_) (a' := ?_) #[true, true, true, true, false, false, false, false, false, false, false, false] rfl rfl (by kernel_rfl) (fun _ _ _ h => h) (Or.inl ⟨by rfl, ?_⟩) ?_ ?_
            rotate_left
            · intro w'
              go_simp
              with_reducible rfl
            rotate_left
            · simp only [Act.put, List.setIfInBounds_toArray, List.set_cons_zero, List.set_cons_succ, i64_w, i32_w]
              rfl
            refine pure_ (i := 5) (N := some 184) (v := ?_) (a' := ?_) #[true, true, true, true, false, true, false, false, false, false, false, false] rfl rfl (by kernel_rfl) (fun _ _ _ h => h) (Or.inl ⟨by rfl, ?_⟩) ?_ ?_
            rotate_left
            · intro w'
              go_simp
              with_reducible rfl
            rotate_left
            · simp only [Act.put, List.setIfInBounds_toArray, List.set_cons_zero, List.set_cons_succ, i64_w, i32_w]
              rfl
            refine pure_ (i := 6) (N := some 185) (v := ?_) (a' := ?_) #[true, true, true, true, false, true, true, false, false, false, false, false] rfl rfl (by kernel_rfl) (fun _ _ _ h => h) (Or.inl ⟨by rfl, ?_⟩) ?_ ?_
            rotate_left
            · intro w'
              go_simp
              with_reducible rfl
            rotate_left
            · simp only [Act.put, List.setIfInBounds_toArray, List.set_cons_zero, List.set_cons_succ, i64_w, i32_w]
              rfl
            refine pure_ (i := 9) (N := some 188) (v := ?_) (a' := ?_) #[true, true, true, true, false, true, true, false, false, true, false, false] rfl rfl (by kernel_rfl) (fun _ _ _ h => h) (Or.inl ⟨by rfl, ?_⟩) ?_ ?_
            rotate_left
            · intro w'
              go_simp
              with_reducible rfl
            rotate_left
            · simp only [Act.put, List.setIfInBounds_toArray, List.set_cons_zero, List.set_cons_succ, i64_w, i32_w]
              rfl
            refine take_ (i := 4) (N := some 183) (v := ?_) (a' := ?_) #[true, true, true, true, true, true, true, false, false, true, false, false] rfl rfl (by kernel_rfl) (fun _ _ _ h => h) (Or.inl ⟨by rfl, ?_⟩) hHeld ?_ ?_
            rotate_left
            · rintro w' ⟨s0, s1⟩
              go_simp
              with_reducible rfl
            rotate_left
            · simp only [Act.put, List.setIfInBounds_toArray, List.set_cons_zero, List.set_cons_succ, i64_w, i32_w]
              rfl
            refine take_ (i := 7) (N := some 186) (v := ?_) (a' := ?_) #[true, true, true, true, true, true, true, true, false, true, false, false] rfl rfl (by kernel_rfl) (fun _ _ _ h => h) (Or.inl ⟨by rfl, ?_⟩) hHeld ?_ ?_
            rotate_left
            · rintro w' ⟨s0, s1⟩
              go_simp
              with_reducible rfl
            rotate_left
            · simp only [Act.put, List.setIfInBounds_toArray, List.set_cons_zero, List.set_cons_succ, i64_w, i32_w]
              rfl
            refine pure_ (i := 8) (N := some 187) (v := ?_) (a' := ?_) #[true, true, true, true, true, true, true, true, true, true, false, false] rfl rfl (by kernel_rfl) (fun _ _ _ h => h) (Or.inl ⟨by rfl, ?_⟩) ?_ ?_
            rotate_left
            · intro w'
              go_simp
              with_reducible rfl
            rotate_left
            · simp only [Act.put, List.setIfInBounds_toArray, List.set_cons_zero, List.set_cons_succ, i64_w, i32_w]
              rfl
            refine pure_ (i := 10) (N := some 189) (v := ?_) (a' := ?_) #[true, true, true, true, true, true, true, true, true, true, true, false] rfl rfl (by kernel_rfl) (fun _ _ _ h => h) (Or.inl ⟨by rfl, ?_⟩) ?_ ?_
            rotate_left
            · intro w'
              go_simp
              with_reducible rfl
            rotate_left
            · simp only [Act.put, List.setIfInBounds_toArray, List.set_cons_zero, List.set_cons_succ, i64_w, i32_w]
              rfl
            refine last_ (i := 11) (N := none) #[true, true, true, true, true, true, true, true, true, true, true, true] rfl rfl (by kernel_rfl) (by decide) (fun K hK => ?_)
            refine skip_ (w1 := ?_) (by rfl) rfl ?_ ?_
            rotate_left
            · go_simp
              rfl
            refine hK.out _ _ ?_
            clear hK K
            refine done_ (by kernel_rfl) ?_
            go_wp2
            go_roundw
            case rel => exact ⟨k + 1, by omega, by go_num, by rw [HX.out]; exact (HS.out.setH (by omega) _).drew, blkfar HV.out hgv _⟩
            case measure => simp [intOf]; omega
        obtain rfl : k = 8 := by omega
        have HS := Aside0.mk hS
        clear hS hV
        go_wp2
        go_end0
        exact ⟨rfl, HS.out.only, by rw [HC.out]; exact HS.out.bh⟩
end Go.Proofs.Ytcagmiglgpjcjaa.Sh
