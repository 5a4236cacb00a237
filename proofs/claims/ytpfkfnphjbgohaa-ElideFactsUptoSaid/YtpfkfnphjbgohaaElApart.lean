/-
  A fact apart.
-/
import Derived.Test.YtpfkfnphjbgohaaElAds
import Derived.Test.YtpfkfnphjbgohaaPEax4
set_option linter.unusedVariables false
set_option linter.unusedSimpArgs false
namespace Go.Proofs.Ytpfkfnphjbgohaa.El
open Go.RowKit Go.Proofs.YtpfkfnphjbgohaaW.PrintWords Go.Proofs.YtpfkfnphjbgohaaW.PrintLast Go.Proofs.YtpfkfnphjbgohaaW.PrintMore Go.Proofs.Ytpfkfnphjbgohaa.PEa
attribute [local go_sem] binS_leq binS_gtr binS_geq max2_int min2_int max_two min_two maxS_two minS_two
theorem info5 : (Try.prog.info? 5).map (fun i => (i.zero, i.size, i.bytes)) = some (some (.int .u8 0), 1, 1) := by kernel_rfl
def BytesQ (w : World) (xs : List Int) (r : Ending) (w' : World) : Prop := ∃ v', r = .returned v' ∧ Kd.R (Kd.int .u8) 5 w' w.heap.size (fun _ => True) v' xs ∧ Below w.heap.size w w'
set_option maxHeartbeats 4000000 in
theorem clone49 (w : World) (A : Option Addr) (c : Nat) (xs : List Int) (hC : Kd.C (Kd.int .u8) w A xs.length xs) (hc : xs.length ≤ c) (hl : xs.length ≤ 1000000000) :
    Calls Try.prog 49 #[.slice A xs.length c] w (BytesQ w xs) := by
  rcases A with _ | ad
  · have hx : xs = [] := by
      rcases xs with _ | ⟨x, xs⟩
      · rfl
      · obtain ⟨ad, e, _⟩ := hC.2.2 (by simp)
        cases e
    subst hx
    have heq : ∀ W : World, (binOp .eql 44 (.slice none 0 c) (.slice none 0 0)).run Try.prog W = .ok (.bool true) W := fun W => by kernel_rfl
    clear hC hc hl
    go_enter Try.func49, Try.ntmps49
    go_wp2_with fail
    go_ret
    exact ⟨_, rfl, Kd.R_nil _ _ _ _ _, Below.refl _ _⟩
  · obtain ⟨n, hn⟩ : ∃ n, xs.length = n := ⟨_, rfl⟩
    rw [hn] at hC hc hl ⊢
    have heq : ∀ W : World, (binOp .eql 44 (.slice (some ad) n c) (.slice none 0 0)).run Try.prog W = .ok (.bool false) W := fun W => by kernel_rfl
    have HC := Aside0.mk hC
    have HN := Aside0.mk hn
    clear hC hn hc
    go_enter Try.func49, Try.ntmps49
    go_wp2_with (first
      | ((with_reducible refine gate_dst (N := 5) rfl ?_); refine Kd.R_lit (Kd.int .u8) _ 5 ?hg (N := 5) ?hd (xs := ([] : List Int)) (inner := []) (ok := fun _ => True) (okp := fun _ => True) ?hr ?hp (fun _ hk => hk) trivial (Below.refl _ _) (Nat.le_refl _) (by simp) ?_; (case hd => rfl); (case hg => rfl); (case hr => first | (go_simp; done) | (go_simp; rfl)); (case hp => exact (Reps.none _ _)); intro v1 w1 ho hb hg_ hnew_; clear hg_ hnew_; have HO := Aside0.mk ho; have HB := Aside0.mk hb; clear ho hb)
      | ((with_reducible refine gate_builtin (b := .append) (xs := #[.tmp 5, .tmp 6]) rfl ?_); refine Kd.R_append_rows (Kd.int .u8) (Rr := (Kd.int .u8).K _) w.heap.size rfl (.tmp 5) (.tmp 6) 44 5 _ 1 rfl Try.underlying44 info5 rfl (by decide) (by decide) _ [] xs (some ad) n c (fun _ => True) (fun _ => False) rfl rfl HO.out (Kd.C_below HC.out HB.out) (fun x cs h => h) (fun _ h => h.elim) (fun _ _ => trivial) HB.out HB.out.size (by simp; omega) ?_; intro v2 w2 hR2 hB2 hg2 hat; clear hat hg2; have HR := Aside0.mk hR2; have HB2 := Aside0.mk hB2; clear hR2 hB2))
    go_ret
    exact ⟨_, rfl, HR.out, HB2.out⟩
def box46 (W : World) (g : Nat) (f0 : ByteArray) (f1 : Int) (v : Value) : Prop := W.heap[g]? = some (.cells #[.string f0, .int .u64 f1, v] 46 (0, 0))
theorem box46_cells {W : World} {g : Nat} {f0 : ByteArray} {f1 : Int} {v : Value} (h : box46 W g f0 f1 v) : W.cell? ⟨g, 0, none⟩ = some (.string f0) ∧ W.cell? ⟨g, 1, none⟩ = some (.int .u64 f1) ∧ W.cell? ⟨g, 2, none⟩ = some v :=
  ⟨(blk_cell h 0).trans rfl, (blk_cell h 1).trans rfl, (blk_cell h 2).trans rfl⟩
theorem box46_free {W : World} {g : Nat} {f0 : ByteArray} {f1 : Int} {v : Value} (h : box46 W g f0 f1 v) : W.frozen? ⟨g, 0, none⟩ = false ∧ W.frozen? ⟨g, 1, none⟩ = false ∧ W.frozen? ⟨g, 2, none⟩ = false := by
  have e : W.heap[g]? = some (.cells #[.string f0, .int .u64 f1, v] 46 (0, 0)) := h
  refine ⟨?_, ?_, ?_⟩ <;> simp [World.frozen?, e]
theorem box46_set {W : World} {g : Nat} {f0 : ByteArray} {f1 : Int} {v u : Value} (h : box46 W g f0 f1 v) : box46 (W.setCell ⟨g, 2, none⟩ u) g f0 f1 u := by
  have := blk_set h 2 u
  exact this
def ApartQ (w : World) (x : S46) (r : Ending) (w' : World) : Prop := ∃ v, r = .returned (.agg #[.string x.f0, .int .u64 x.f1, v]) ∧ Kd.R (Kd.int .u8) 5 w' w.heap.size (fun _ => True) v x.f2 ∧ Below w.heap.size w w'
set_option maxHeartbeats 4000000 in
set_option maxRecDepth 100000 in
theorem apart38 (w : World) (x : S46) (A : Option Addr) (c : Nat) (hC : Kd.C (Kd.int .u8) w A x.f2.length x.f2) (hc : x.f2.length ≤ c) (hl : x.f2.length ≤ 1000000000) :
    Calls Try.prog 38 #[.agg #[.string x.f0, .int .u64 x.f1, .slice A x.f2.length c]] w (ApartQ w x) := by
  have HCl := Aside0.mk (fun (W : World) (hb : Below w.heap.size w W) => clone49 W A c x.f2 (Kd.C_below hC hb) hc hl)
  generalize x.f2.length = n at *
  clear hC hc hl
  go_enter Try.func38, Try.ntmps38
  go_wp2_with (first
    | ((with_reducible refine gate_dst (N := 1) rfl ?_); refine box_event ?hg (N := 1) ?hd (cs := #[.string x.f0, .int .u64 x.f1, .slice A n c]) (t := 46) ?hr ?_; (case hd => rfl); (case hg => rfl); (case hr => first | (go_simp; done) | (go_simp; rfl)); intro gx hgx w1 hbox hb; have HB := Aside0.mk hb; have HX := Aside0.mk (show box46 w1 gx x.f0 x.f1 (.slice A n c) from hbox); have HG0 := Aside0.mk hgx; clear hb hbox hgx)
    | ((with_reducible refine gate_dst (N := 2) rfl ?_); refine box_event ?hg (N := 2) ?hd (cs := #[.string ⟨#[]⟩, .int .u64 0, .slice none 0 0]) (t := 46) ?hr ?_; (case hd => rfl); (case hg => rfl); (case hr => first | (go_simp; done) | (go_simp; rfl)); intro gr hgr w2 hbox hb; have HR := Aside0.mk (show box46 w2 gr ⟨#[]⟩ 0 (.slice none 0 0) from hbox); have HN := Aside0.mk (show gr ≠ gx by have := blk_lt HX.out; omega); have HG := Aside0.mk (show w.heap.size ≤ gx ∧ w.heap.size ≤ gr by have := HG0.out; have := HB.out.size; constructor <;> omega); replace HX := Aside0.mk (show box46 w2 gx x.f0 x.f1 (.slice A n c) from blk_below HX.out hb); replace HB := Aside0.mk (below_then HB.out HB.out.size hb); have hx2 := (box46_cells HX.out).2.2; clear hb hbox hgr))
  go_at_call 49
  refine (HCl.out _ HB.out).mono ?_
  rintro _ w3 ⟨v, rfl, hR, hb⟩
  obtain ⟨A1, m1, c1, e1⟩ : ∃ A m c, v = .slice A m c := by obtain ⟨A, c, e⟩ := Kd.R_slice hR; exact ⟨A, _, c, e⟩
  subst e1
  have HV := Aside0.mk (Kd.R_lower hR HB.out.size)
  replace HX := Aside0.mk (show box46 w3 gx x.f0 x.f1 (.slice A n c) from blk_below HX.out hb)
  replace HR := Aside0.mk (show box46 w3 gr ⟨#[]⟩ 0 (.slice none 0 0) from blk_below HR.out hb)
  have HB3 := Aside0.mk (below_then HB.out HB.out.size hb)
  clear hx2 hb hR
  have hxc := box46_cells HX.out
  have hxf := box46_free HX.out
  have hrc := box46_cells HR.out
  have hrf := box46_free HR.out
  have hne := HN.out
  go_wp2
  have h4 := box46_set (u := .slice A1 m1 c1) HX.out
  have hr4 : box46 (w3.setCell ⟨gx, 2, none⟩ (.slice A1 m1 c1)) gr ⟨#[]⟩ 0 (.slice none 0 0) := (Below.heap_setCell w3 ⟨gx, 2, none⟩ _ gr HN.out).trans HR.out
  have hr7 : box46 ((((w3.setCell ⟨gx, 2, none⟩ (.slice A1 m1 c1)).setCell ⟨gr, 0, none⟩ (.string x.f0)).setCell ⟨gr, 1, none⟩ (.int .u64 x.f1)).setCell ⟨gr, 2, none⟩ (.slice A1 m1 c1)) gr x.f0 x.f1 (.slice A1 m1 c1) := blk_set (blk_set (blk_set hr4 0 (.string x.f0)) 1 (.int .u64 x.f1)) 2 (.slice A1 m1 c1)
  have hR4 := Kd.R_set HV.out HX.out (by decide) 2 (.slice A1 m1 c1)
  have hR7 := Kd.R_set (Kd.R_set (Kd.R_set hR4 hr4 (by decide) 0 (.string x.f0)) (blk_set hr4 0 (.string x.f0)) (by decide) 1 (.int .u64 x.f1)) (blk_set (blk_set hr4 0 (.string x.f0)) 1 (.int .u64 x.f1)) (by decide) 2 (.slice A1 m1 c1)
  have hB7 := (((HB3.out.setCell (p := ⟨gx, 2, none⟩) HG.out.1 (.slice A1 m1 c1)).setCell (p := ⟨gr, 0, none⟩) HG.out.2 (.string x.f0)).setCell (p := ⟨gr, 1, none⟩) HG.out.2 (.int .u64 x.f1)).setCell (p := ⟨gr, 2, none⟩) HG.out.2 (.slice A1 m1 c1)
  refine bodyPost_ret (results_cell_row rfl _ _ gr 46 _ (0, 0) _ rfl hr7 Try.underlying46 rfl (by kernel_rfl)) rfl ⟨_, rfl, hR7, hB7⟩
end Go.Proofs.Ytpfkfnphjbgohaa.El
