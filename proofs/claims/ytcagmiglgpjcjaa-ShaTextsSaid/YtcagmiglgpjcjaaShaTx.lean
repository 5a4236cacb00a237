/-
  The walk of the law ShaTexts.
-/
import Derived.Test.YtcagmiglgpjcjaaShaHx
import Derived.Test.YtcagmiglgpjcjaaShaKn
import Derived.Test.YtcagmiglgpjcjaaShaRef
import Derived.Laws.Cover3
set_option linter.unusedVariables false
set_option linter.unusedSimpArgs false
namespace Go.Proofs.Ytcagmiglgpjcjaa.Sh
open Go.RowKit Go.Proofs.YtcagmiglgpjcjaaW.PrintWords Go.Proofs.YtcagmiglgpjcjaaW.PrintLast Go.Proofs.YtcagmiglgpjcjaaW.PrintMore Go.Proofs.Ytcagmiglgpjcjaa.PSa

/-- A whole row out of the middle of another one. -/
theorem run_loadVar_at {P : Program} (w : World) (ty : TypeId) (ad : Addr) (l : List Value) (d : TypeDesc) (hc : ∀ j v, l[j]? = some v → w.cell? (ad.add j) = some v)
    (hu : P.underlying ty = some d) (hd : (match d with | .struct _ | .array _ _ => true | _ => false) = true) (hi : (P.info? ty).map (·.size) = some l.length) :
    (loadVar ty ad).run P w = .ok (.agg l.toArray) w := by
  have hl : (loadCells ad l.length).run P w = .ok l.toArray w := run_loadCells_list (P := P) w ad l hc
  cases hq : P.info? ty with
  | none => simp [hq] at hi
  | some i =>
    have hs : i.size = l.length := by simpa [hq] using hi
    have hagg : (isAgg ty).run P w = .ok true w := by
      unfold isAgg
      rw [Sem.run_bind, run_underlying hu w]
      cases d <;> simp_all
    simp [loadVar, Sem.run_bind, hagg, sizeOf, typeInfo, hq, hs, hl]
theorem exec_load_at {P : Program} {a : Act} {o : Oper} {w : World} (ty : TypeId) (x : Operand) (ho : o.op = .load ty x) (ad : Addr) (hx : a.eval x = .pointer (some ad)) (l : List Value) (d : TypeDesc) (hc : ∀ j v, l[j]? = some v → w.cell? (ad.add j) = some v)
    (hu : P.underlying ty = some d) (hd : (match d with | .struct _ | .array _ _ => true | _ => false) = true) (hi : (P.info? ty).map (·.size) = some l.length) : (execOp a.eval o).run P w = .ok (.value (.agg l.toArray)) w := by
  unfold execOp
  simp only [ho, hx, Instr.loadAt, Instr.sureAddr, Sem.run_bind, Sem.run_pure, Result.andThen_ok, run_loadVar_at w ty ad l d hc hu hd hi]
theorem event_run_g {P : Program} {ops : Array Oper} {rest : List Oper} {o : Oper} {a : Act} {Q : Exit → Act → World → Prop} {W w1 : World} {v : Value} (hw : Region.wanted o (yielded ops a.tmps) = true) (hrun : (execOp a.eval o).run P W = .ok (.value v) w1) (h : wpList P ops Q rest (a.put o.dst v) w1) : wpList P ops Q (o :: rest) a W := by
  unfold wpList
  rw [if_pos hw]
  left
  unfold Oper.wp
  rw [hrun]
  exact h
theorem C_cells {w : World} {ad : Addr} {l : List Int} (hl : l.length = 32) (h : KBs.C w (some ad) 32 l) : ∀ j v, (l.map (Value.int .u8))[j]? = some v → w.cell? (ad.add j) = some v := by
  intro j v hj
  obtain ⟨ad', e, hc⟩ := h.2.2 (by decide)
  injection e with e
  subst e
  rw [List.getElem?_map] at hj
  cases hx : l[j]? with
  | none => rw [hx] at hj; cases hj
  | some x =>
    rw [hx] at hj
    obtain ⟨c, _, hK, hcell⟩ := hc j x hx
    have hK' : c = [.int .u8 x] := hK
    subst hK'
    have := hcell 0 (.int .u8 x) rfl
    rw [show j * KBs.sz + 0 = j from by show j * 1 + 0 = j; omega] at this
    rw [this]
    exact hj
theorem by_of {l : List Int} (hl : l.length = 32) (hw : ∀ x ∈ l, (Lit.int .u8 x).wf = true) : By l := by
  refine ⟨hl, fun i hi => ?_⟩
  have hm : at32 l i ∈ l := by
    have h2 : i < l.length := by omega
    have e : at32 l i = l[i] := by simp [at32, h2]
    rw [e]
    exact List.getElem_mem h2
  have := hw _ hm
  have e2 : IntKind.u8.min ≤ at32 l i ∧ at32 l i ≤ IntKind.u8.max := by simpa [Lit.wf] using this
  have e3 : (0 : Int) ≤ at32 l i ∧ at32 l i ≤ 255 := e2
  omega
set_option maxRecDepth 100000 in
set_option maxHeartbeats 40000000 in
theorem texts6 (w : World) (a : List Int) (Aa : Option Addr) (ca : Nat) (hCa : KBs.C w Aa a.length a) (hca : a.length ≤ ca) (hwa : ∀ x ∈ a, (Lit.int .u8 x).wf = true) (b : List Int) (Ab : Option Addr) (cb : Nat) (hCb : KBs.C w Ab b.length b) (hcb : b.length ≤ cb) (hwb : ∀ x ∈ b, (Lit.int .u8 x).wf = true) (s : ByteArray) :
    Calls Try.prog 6 #[.slice Aa a.length ca, .slice Ab b.length cb, .string s] w fun e w' => e = .returned (.bool true) ∧ Below w.heap.size w w' := by
  have HK := Aside0.mk (fun W => known7 W)
  go_enter Try.func6, Try.ntmps6
  by_cases ha : a.length = 32
  rotate_left
  · have q1 : ¬ (a.length : Int) = 32 := by omega
    clear hCa hca hwa hCb hcb hwb
    go_wp2_with (go_at_call 7; with_reducible refine (HK.out _).mono ?_; rintro e w1 ⟨rfl, hb1⟩)
    go_ret
    exact ⟨rfl, hb1⟩
  by_cases hb : b.length = 32
  rotate_left
  · have q1 : ¬ (b.length : Int) = 32 := by omega
    have q2 : (a.length : Int) = 32 := by omega
    clear hCa hca hwa hCb hcb hwb ha
    go_wp2_with (go_at_call 7; with_reducible refine (HK.out _).mono ?_; rintro e w1 ⟨rfl, hb1⟩)
    go_ret
    exact ⟨rfl, hb1⟩
  by_cases hs : (s.size : Int) > 1000
  · have q1 : (b.length : Int) = 32 := by omega
    have q2 : (a.length : Int) = 32 := by omega
    clear hCa hca hwa hCb hcb hwb ha hb
    go_wp2_with (go_at_call 7; with_reducible refine (HK.out _).mono ?_; rintro e w1 ⟨rfl, hb1⟩)
    go_ret
    exact ⟨rfl, hb1⟩
  have hba := by_of ha hwa
  have hbb := by_of hb hwb
  rw [ha] at hCa hca ⊢
  rw [hb] at hCb hcb ⊢
  obtain ⟨ad, eA, _⟩ := hCa.2.2 (by decide)
  obtain ⟨bd, eB, _⟩ := hCb.2.2 (by decide)
  subst eA
  subst eB
  have HI := Aside0.mk (show ∀ l : List Int, l.length = 32 → (Try.prog.info? 25).map (·.size) = some (u8s l).size from fun l hl => by rw [u8s_size, hl]; exact zero25.2)
  have HI2 := Aside0.mk (show ∀ l : List Int, l.length = 32 → (Try.prog.info? 25).map (·.size) = some (l.map (Value.int .u8)).length from fun l hl => by rw [List.length_map, hl]; exact zero25.2)
  have HCa := Aside0.mk (fun (W : World) (hb : Below w.heap.size w W) => Kd.C_below hCa hb)
  have HCb := Aside0.mk (fun (W : World) (hb : Below w.heap.size w W) => Kd.C_below hCb hb)
  have hata : ∀ W, (Instr.arrayAt 25 (.slice (some ad) 32 ca)).run Try.prog W = .ok (.pointer (some ad)) W := fun W => run_arrayAt W 25 _ 32 _ 32 ca Try.underlying25 (by decide)
  have hatb : ∀ W, (Instr.arrayAt 25 (.slice (some bd) 32 cb)).run Try.prog W = .ok (.pointer (some bd)) W := fun W => run_arrayAt W 25 _ 32 _ 32 cb Try.underlying25 (by decide)
  have HBa := Aside0.mk hba
  have HBb := Aside0.mk hbb
  have Hab := Aside0.mk (And.intro ha hb)
  have heqa := fun W => eq25 a a ha ha W
  obtain ⟨X, hX⟩ : ∃ x, strOfNums (hexs a 32) = x := ⟨_, rfl⟩
  have hXs : (X.size : Int) = 64 := by rw [← hX, strOfNums_size, hexs_length]; rfl
  have H16 := Aside0.mk (show ∀ W : World, Calls Try.prog 16 #[.agg (u8s a)] W fun e w' => e = .returned (.string X) ∧ Below W.heap.size W w' from fun W => by rw [← hX]; exact str16 W a ha hba.2)
  have H15 := Aside0.mk (show ∀ W : World, Calls Try.prog 15 #[.string X] W fun e w' => e = .returned (.tuple #[.agg (u8s a), .int .i64 0]) ∧ Below W.heap.size W w' from fun W => by
    have h := parse15 W X (by rw [← hX, strOfNums_size, hexs_length]; decide)
    rw [← hX, prZ_hexs a hba, prE_hexs a hba, hX] at h
    exact h)
  have HXa := Aside0.mk hX
  clear hX hCa hCb hca hcb hwa hwb hba hbb ha hb
  obtain ⟨Y, hY⟩ : ∃ x, strOfNums (hexs b 32) = x := ⟨_, rfl⟩
  have H16b := Aside0.mk (show ∀ W : World, Calls Try.prog 16 #[.agg (u8s b)] W fun e w' => e = .returned (.string Y) ∧ Below W.heap.size W w' from fun W => by rw [← hY]; exact str16 W b Hab.out.2 HBb.out.2)
  have hlessX := less_hex a b HBa.out HBb.out
  have hlessA := less_sum a b HBa.out HBb.out
  have hnum := nums_inj HBa.out HBb.out
  have hc18 := cmp_sum a b HBa.out HBb.out
  have h18 := fun W => compare18 W a b Hab.out.1 Hab.out.2
  rw [hc18] at h18
  rw [HXa.out, hY] at hlessX
  have HCVa := Aside0.mk (fun (W : World) (hb : Below w.heap.size w W) => Kd.C_string (P := Try.prog) (c := ca) Try.underlying23 Try.underlying5 Try.underlying9 (HCa.out W hb))
  have HCVb := Aside0.mk (fun (W : World) (hb : Below w.heap.size w W) => Kd.C_string (P := Try.prog) (c := cb) Try.underlying23 Try.underlying5 Try.underlying9 (HCb.out W hb))
  have hcs : ∃ c : Int, cmI a b = c ∧ (lexI a b = true ∧ c = -1 ∨ lexI a b = false ∧ decide (a = b) = true ∧ c = 0 ∨ lexI a b = false ∧ decide (a = b) = false ∧ c = 1) := by
    refine ⟨_, rfl, ?_⟩
    unfold cmI
    cases lexI a b
    · by_cases e : a = b
      · right; left; simp [e]
      · right; right; simp [e]
    · left; simp
  obtain ⟨c, hcm, hcs⟩ := hcs
  rw [hcm] at h18
  rw [hnum.symm] at hcs
  rw [← hlessA] at hcs hlessX
  clear hcm hc18 hnum hlessA
  generalize strOfNums a = A at *
  generalize strOfNums b = B at *
  have H18 := Aside0.mk h18
  have Hless := Aside0.mk hlessX
  have HY := Aside0.mk hY
  clear h18 hlessX hY HBa HBb HY HXa
  have heqz := fun W => eq25 z32 z32 rfl rfl W
  have HZc := Aside0.mk (show ∀ W : World, Calls Try.prog 15 #[.string s] W fun e w' => e = .returned (.tuple #[.agg (u8s (prZ s)), .int .i64 (prE s)]) ∧ Below W.heap.size W w' from fun W => parse15 W s (by omega))
  have H17 := Aside0.mk (fun W => digits17 s W)
  have hZb := prZ_by s
  have HZl := Aside0.mk hZb.1
  have H16z := Aside0.mk (show prOk s = true → ∀ W : World, Calls Try.prog 16 #[.agg (u8s (prZ s))] W fun e w' => e = .returned (.string s) ∧ Below W.heap.size W w' from fun h W => by
    have := str16 W (prZ s) hZb.1 hZb.2
    rw [hexs_prZ s h] at this
    exact this)
  clear hZb
  generalize hL : Op.bytesLess A.toList B.toList = L at *
  have Hcc := Aside0.mk hcs
  clear hcs
  cases hok : prOk s
  case' true =>
    have h0 : prE s = 0 := by rw [prE, if_pos hok]
    have h16 := H16z.out hok
    rw [hok] at H17
    rw [h0] at HZc
    clear H16z h0 hok
    have H16z := Aside0.mk h16
    clear h16
    generalize prZ s = Z at *
    go_wp2_with (first
        | (go_at_call 7; with_reducible refine (HK.out _).mono ?_; rintro e w1 ⟨rfl, hb1⟩; have Hb1 := Aside0.mk hb1; clear hb1)
        | ((with_reducible refine gate_dst (N := 29) rfl ?_); refine Kd.event_run (v := .agg (u8s a)) rfl (exec_load_at 25 (.tmp 28) rfl ad rfl (a.map (Value.int .u8)) _ (C_cells Hab.out.1 (HCa.out w1 Hb1.out)) Try.underlying25 rfl (HI2.out a Hab.out.1)) ?_)
        | ((with_reducible refine gate_dst (N := 7) rfl ?_); refine step_alloc rfl 25 rfl (u8s z32) zero25.1 ?_)
        | ((with_reducible refine gate_store (t := 25) (p := 7) (v := .tmp 29) rfl ?_); refine wpList_store_row rfl 25 (.tmp 7) (.tmp 29) rfl w1.heap.size (u8s a) rfl rfl 25 (u8s z32) (blk_new w1 _) (HI.out a Hab.out.1) (by rw [u8s_size, u8s_size, Hab.out.1]; rfl) (u8s_one a) ?_; have HS := Aside0.mk (below_setRow (Hb1.out.alloc Hb1.out.size (.cells (u8s z32) 25)) Hb1.out.size (u8s a)); have HX := Aside0.mk (setRow_heap (w1.alloc (.cells (u8s z32) 25)) w1.heap.size (u8s z32) (u8s a) 25 _ (blk_new w1 _)); clear Hb1; generalize (w1.alloc (.cells (u8s z32) 25)).setRow w1.heap.size (u8s a) = w2 at *; generalize w1.heap.size = gx at *)
        | ((with_reducible refine gate_dst (N := 32) rfl ?_); refine Kd.event_run (v := .agg (u8s b)) rfl (exec_load_at 25 (.tmp 31) rfl bd rfl (b.map (Value.int .u8)) _ (C_cells Hab.out.2 (HCb.out w2 HS.out)) Try.underlying25 rfl (HI2.out b Hab.out.2)) ?_)
        | ((with_reducible refine gate_dst (N := 8) rfl ?_); refine step_alloc rfl 25 rfl (u8s z32) zero25.1 ?_)
        | ((with_reducible refine gate_store (t := 25) (p := 8) (v := .tmp 32) rfl ?_); refine wpList_store_row rfl 25 (.tmp 8) (.tmp 32) rfl w2.heap.size (u8s b) rfl rfl 25 (u8s z32) (blk_new w2 _) (HI.out b Hab.out.2) (by rw [u8s_size, u8s_size, Hab.out.2]; rfl) (u8s_one b) ?_; replace HS := Aside0.mk (below_setRow (HS.out.alloc HS.out.size (.cells (u8s z32) 25)) HS.out.size (u8s b)); have HY := Aside0.mk (setRow_heap (w2.alloc (.cells (u8s z32) 25)) w2.heap.size (u8s z32) (u8s b) 25 _ (blk_new w2 _)); replace HX := Aside0.mk ((setRow_other (w2.alloc (.cells (u8s z32) 25)) w2.heap.size gx (u8s b) (Nat.ne_of_lt (heap_lt HX.out))).trans (blkalloc HX.out (.cells (u8s z32) 25))); generalize (w2.alloc (.cells (u8s z32) 25)).setRow w2.heap.size (u8s b) = w3 at *; generalize w2.heap.size = gy at *)
        | ((with_reducible refine gate_dst (N := 34) rfl ?_); refine event_run_g (v := .agg (u8s a)) (by rfl) (exec_load_row 25 (.tmp 7) rfl gx rfl 25 (u8s a) (0, 0) _ HX.out Try.underlying25 rfl (HI.out _ Hab.out.1)) ?_)
        | (go_at_call 16; with_reducible refine (H16.out w3).mono ?_; rintro e w4 ⟨rfl, hb⟩; replace HS := Aside0.mk (below_then HS.out HS.out.size hb); replace HX := Aside0.mk ((hb.block _ (heap_lt HX.out)).trans HX.out); replace HY := Aside0.mk ((hb.block _ (heap_lt HY.out)).trans HY.out); clear hb)
        | (go_at_call 15; with_reducible refine (H15.out w4).mono ?_; rintro e w5 ⟨rfl, hb⟩; replace HS := Aside0.mk (below_then HS.out HS.out.size hb); replace HX := Aside0.mk ((hb.block _ (heap_lt HX.out)).trans HX.out); replace HY := Aside0.mk ((hb.block _ (heap_lt HY.out)).trans HY.out); clear hb)
        | ((with_reducible refine gate_dst (N := 9) rfl ?_); refine step_alloc rfl 25 rfl (u8s z32) zero25.1 ?_)
        | ((with_reducible refine gate_store (t := 25) (p := 9) (v := .tmp 37) rfl ?_); refine wpList_store_row rfl 25 (.tmp 9) (.tmp 37) rfl w5.heap.size (u8s a) rfl rfl 25 (u8s z32) (blk_new w5 _) (HI.out a Hab.out.1) (by rw [u8s_size, u8s_size, Hab.out.1]; rfl) (u8s_one a) ?_; have HG := Aside0.mk (show w.heap.size ≤ w5.heap.size ∧ gx < w5.heap.size ∧ gy < w5.heap.size from ⟨HS.out.size, heap_lt HX.out, heap_lt HY.out⟩); replace HS := Aside0.mk (below_setRow (HS.out.alloc HS.out.size (.cells (u8s z32) 25)) HS.out.size (u8s a)); have HZ := Aside0.mk (setRow_heap (w5.alloc (.cells (u8s z32) 25)) w5.heap.size (u8s z32) (u8s a) 25 _ (blk_new w5 _)); replace HX := Aside0.mk ((setRow_other (w5.alloc (.cells (u8s z32) 25)) w5.heap.size gx (u8s a) (Nat.ne_of_lt HG.out.2.1)).trans (blkalloc HX.out (.cells (u8s z32) 25))); replace HY := Aside0.mk ((setRow_other (w5.alloc (.cells (u8s z32) 25)) w5.heap.size gy (u8s a) (Nat.ne_of_lt HG.out.2.2)).trans (blkalloc HY.out (.cells (u8s z32) 25))); generalize (w5.alloc (.cells (u8s z32) 25)).setRow w5.heap.size (u8s a) = w6 at *; generalize w5.heap.size = gz at *)
        | ((with_reducible refine gate_dst (N := 42) rfl ?_); refine event_run_g (v := .agg (u8s a)) (by rfl) (exec_load_row 25 (.tmp 9) rfl gz rfl 25 (u8s a) (0, 0) _ HZ.out Try.underlying25 rfl (HI.out _ Hab.out.1)) ?_)
        | ((with_reducible refine gate_dst (N := 43) rfl ?_); refine event_run_g (v := .agg (u8s a)) (by rfl) (exec_load_row 25 (.tmp 7) rfl gx rfl 25 (u8s a) (0, 0) _ HX.out Try.underlying25 rfl (HI.out _ Hab.out.1)) ?_)
        | ((with_reducible refine gate_dst (N := 47) rfl ?_); refine event_run_g (v := .agg (u8s a)) (by rfl) (exec_load_row 25 (.tmp 7) rfl gx rfl 25 (u8s a) (0, 0) _ HX.out Try.underlying25 rfl (HI.out _ Hab.out.1)) ?_)
        | (go_at_call 16; with_reducible refine (H16.out w6).mono ?_; rintro e w7 ⟨rfl, hb⟩; replace HS := Aside0.mk (below_then HS.out HS.out.size hb); replace HX := Aside0.mk ((hb.block _ (heap_lt HX.out)).trans HX.out); replace HY := Aside0.mk ((hb.block _ (heap_lt HY.out)).trans HY.out); replace HZ := Aside0.mk ((hb.block _ (heap_lt HZ.out)).trans HZ.out); clear hb)
        | (go_at_call 15; with_reducible refine (HZc.out w7).mono ?_; rintro e w8 ⟨rfl, hb⟩; replace HS := Aside0.mk (below_then HS.out HS.out.size hb); replace HX := Aside0.mk ((hb.block _ (heap_lt HX.out)).trans HX.out); replace HY := Aside0.mk ((hb.block _ (heap_lt HY.out)).trans HY.out); replace HZ := Aside0.mk ((hb.block _ (heap_lt HZ.out)).trans HZ.out); clear hb)
        | ((with_reducible refine gate_store (t := 25) (p := 9) (v := .tmp 55) rfl ?_); refine wpList_store_row rfl 25 (.tmp 9) (.tmp 55) rfl gz (u8s Z) rfl rfl 25 (u8s a) HZ.out (HI.out Z HZl.out) (by rw [u8s_size, u8s_size, Hab.out.1, HZl.out]) (u8s_one Z) ?_; replace HS := Aside0.mk (below_setRow HS.out HG.out.1 (u8s Z)); replace HZ := Aside0.mk (setRow_heap w8 gz (u8s a) (u8s Z) 25 _ HZ.out); replace HX := Aside0.mk ((setRow_other w8 gz gx (u8s Z) (Nat.ne_of_lt HG.out.2.1)).trans HX.out); replace HY := Aside0.mk ((setRow_other w8 gz gy (u8s Z) (Nat.ne_of_lt HG.out.2.2)).trans HY.out); generalize w8.setRow gz (u8s Z) = w9 at *)
        | ((with_reducible refine gate_dst (N := 60) rfl ?_); refine event_run_g (v := .agg (u8s Z)) (by rfl) (exec_load_row 25 (.tmp 9) rfl gz rfl 25 (u8s Z) (0, 0) _ HZ.out Try.underlying25 rfl (HI.out _ HZl.out)) ?_)
        | (go_at_call 16; with_reducible refine (H16z.out w9).mono ?_; rintro e w10 ⟨rfl, hb⟩; replace HS := Aside0.mk (below_then HS.out HS.out.size hb); replace HX := Aside0.mk ((hb.block _ (heap_lt HX.out)).trans HX.out); replace HY := Aside0.mk ((hb.block _ (heap_lt HY.out)).trans HY.out); replace HZ := Aside0.mk ((hb.block _ (heap_lt HZ.out)).trans HZ.out); clear hb)
        | (go_at_call 17; with_reducible refine (H17.out w10).mono ?_; rintro e w11 ⟨rfl, hd⟩; have hb : Below w10.heap.size w10 w11 := by { obtain ⟨n, rfl⟩ := hd; exact pw_below_drewN (Below.refl _ _) n }; replace HS := Aside0.mk (below_then HS.out HS.out.size hb); replace HX := Aside0.mk ((hb.block _ (heap_lt HX.out)).trans HX.out); replace HY := Aside0.mk ((hb.block _ (heap_lt HY.out)).trans HY.out); clear hb hd; have hva := HCVa.out w11 HS.out; have hvb := HCVb.out w11 HS.out))
  case' false =>
    have hno : ¬ prOk s = true := by rw [hok]; decide
    have h0 : prE s = 24 := by rw [prE, if_neg hno]
    have hz : prZ s = z32 := by rw [prZ, if_neg hno]
    rw [hok] at H17
    rw [h0, hz] at HZc
    rw [hz] at HZl
    clear H16z h0 hz hno hok
    go_wp2_with (first
        | (go_at_call 7; with_reducible refine (HK.out _).mono ?_; rintro e w1 ⟨rfl, hb1⟩; have Hb1 := Aside0.mk hb1; clear hb1)
        | ((with_reducible refine gate_dst (N := 29) rfl ?_); refine Kd.event_run (v := .agg (u8s a)) rfl (exec_load_at 25 (.tmp 28) rfl ad rfl (a.map (Value.int .u8)) _ (C_cells Hab.out.1 (HCa.out w1 Hb1.out)) Try.underlying25 rfl (HI2.out a Hab.out.1)) ?_)
        | ((with_reducible refine gate_dst (N := 7) rfl ?_); refine step_alloc rfl 25 rfl (u8s z32) zero25.1 ?_)
        | ((with_reducible refine gate_store (t := 25) (p := 7) (v := .tmp 29) rfl ?_); refine wpList_store_row rfl 25 (.tmp 7) (.tmp 29) rfl w1.heap.size (u8s a) rfl rfl 25 (u8s z32) (blk_new w1 _) (HI.out a Hab.out.1) (by rw [u8s_size, u8s_size, Hab.out.1]; rfl) (u8s_one a) ?_; have HS := Aside0.mk (below_setRow (Hb1.out.alloc Hb1.out.size (.cells (u8s z32) 25)) Hb1.out.size (u8s a)); have HX := Aside0.mk (setRow_heap (w1.alloc (.cells (u8s z32) 25)) w1.heap.size (u8s z32) (u8s a) 25 _ (blk_new w1 _)); clear Hb1; generalize (w1.alloc (.cells (u8s z32) 25)).setRow w1.heap.size (u8s a) = w2 at *; generalize w1.heap.size = gx at *)
        | ((with_reducible refine gate_dst (N := 32) rfl ?_); refine Kd.event_run (v := .agg (u8s b)) rfl (exec_load_at 25 (.tmp 31) rfl bd rfl (b.map (Value.int .u8)) _ (C_cells Hab.out.2 (HCb.out w2 HS.out)) Try.underlying25 rfl (HI2.out b Hab.out.2)) ?_)
        | ((with_reducible refine gate_dst (N := 8) rfl ?_); refine step_alloc rfl 25 rfl (u8s z32) zero25.1 ?_)
        | ((with_reducible refine gate_store (t := 25) (p := 8) (v := .tmp 32) rfl ?_); refine wpList_store_row rfl 25 (.tmp 8) (.tmp 32) rfl w2.heap.size (u8s b) rfl rfl 25 (u8s z32) (blk_new w2 _) (HI.out b Hab.out.2) (by rw [u8s_size, u8s_size, Hab.out.2]; rfl) (u8s_one b) ?_; replace HS := Aside0.mk (below_setRow (HS.out.alloc HS.out.size (.cells (u8s z32) 25)) HS.out.size (u8s b)); have HY := Aside0.mk (setRow_heap (w2.alloc (.cells (u8s z32) 25)) w2.heap.size (u8s z32) (u8s b) 25 _ (blk_new w2 _)); replace HX := Aside0.mk ((setRow_other (w2.alloc (.cells (u8s z32) 25)) w2.heap.size gx (u8s b) (Nat.ne_of_lt (heap_lt HX.out))).trans (blkalloc HX.out (.cells (u8s z32) 25))); generalize (w2.alloc (.cells (u8s z32) 25)).setRow w2.heap.size (u8s b) = w3 at *; generalize w2.heap.size = gy at *)
        | ((with_reducible refine gate_dst (N := 34) rfl ?_); refine event_run_g (v := .agg (u8s a)) (by rfl) (exec_load_row 25 (.tmp 7) rfl gx rfl 25 (u8s a) (0, 0) _ HX.out Try.underlying25 rfl (HI.out _ Hab.out.1)) ?_)
        | (go_at_call 16; with_reducible refine (H16.out w3).mono ?_; rintro e w4 ⟨rfl, hb⟩; replace HS := Aside0.mk (below_then HS.out HS.out.size hb); replace HX := Aside0.mk ((hb.block _ (heap_lt HX.out)).trans HX.out); replace HY := Aside0.mk ((hb.block _ (heap_lt HY.out)).trans HY.out); clear hb)
        | (go_at_call 15; with_reducible refine (H15.out w4).mono ?_; rintro e w5 ⟨rfl, hb⟩; replace HS := Aside0.mk (below_then HS.out HS.out.size hb); replace HX := Aside0.mk ((hb.block _ (heap_lt HX.out)).trans HX.out); replace HY := Aside0.mk ((hb.block _ (heap_lt HY.out)).trans HY.out); clear hb)
        | ((with_reducible refine gate_dst (N := 9) rfl ?_); refine step_alloc rfl 25 rfl (u8s z32) zero25.1 ?_)
        | ((with_reducible refine gate_store (t := 25) (p := 9) (v := .tmp 37) rfl ?_); refine wpList_store_row rfl 25 (.tmp 9) (.tmp 37) rfl w5.heap.size (u8s a) rfl rfl 25 (u8s z32) (blk_new w5 _) (HI.out a Hab.out.1) (by rw [u8s_size, u8s_size, Hab.out.1]; rfl) (u8s_one a) ?_; have HG := Aside0.mk (show w.heap.size ≤ w5.heap.size ∧ gx < w5.heap.size ∧ gy < w5.heap.size from ⟨HS.out.size, heap_lt HX.out, heap_lt HY.out⟩); replace HS := Aside0.mk (below_setRow (HS.out.alloc HS.out.size (.cells (u8s z32) 25)) HS.out.size (u8s a)); have HZ := Aside0.mk (setRow_heap (w5.alloc (.cells (u8s z32) 25)) w5.heap.size (u8s z32) (u8s a) 25 _ (blk_new w5 _)); replace HX := Aside0.mk ((setRow_other (w5.alloc (.cells (u8s z32) 25)) w5.heap.size gx (u8s a) (Nat.ne_of_lt HG.out.2.1)).trans (blkalloc HX.out (.cells (u8s z32) 25))); replace HY := Aside0.mk ((setRow_other (w5.alloc (.cells (u8s z32) 25)) w5.heap.size gy (u8s a) (Nat.ne_of_lt HG.out.2.2)).trans (blkalloc HY.out (.cells (u8s z32) 25))); generalize (w5.alloc (.cells (u8s z32) 25)).setRow w5.heap.size (u8s a) = w6 at *; generalize w5.heap.size = gz at *)
        | ((with_reducible refine gate_dst (N := 42) rfl ?_); refine event_run_g (v := .agg (u8s a)) (by rfl) (exec_load_row 25 (.tmp 9) rfl gz rfl 25 (u8s a) (0, 0) _ HZ.out Try.underlying25 rfl (HI.out _ Hab.out.1)) ?_)
        | ((with_reducible refine gate_dst (N := 43) rfl ?_); refine event_run_g (v := .agg (u8s a)) (by rfl) (exec_load_row 25 (.tmp 7) rfl gx rfl 25 (u8s a) (0, 0) _ HX.out Try.underlying25 rfl (HI.out _ Hab.out.1)) ?_)
        | ((with_reducible refine gate_dst (N := 47) rfl ?_); refine event_run_g (v := .agg (u8s a)) (by rfl) (exec_load_row 25 (.tmp 7) rfl gx rfl 25 (u8s a) (0, 0) _ HX.out Try.underlying25 rfl (HI.out _ Hab.out.1)) ?_)
        | (go_at_call 16; with_reducible refine (H16.out w6).mono ?_; rintro e w7 ⟨rfl, hb⟩; replace HS := Aside0.mk (below_then HS.out HS.out.size hb); replace HX := Aside0.mk ((hb.block _ (heap_lt HX.out)).trans HX.out); replace HY := Aside0.mk ((hb.block _ (heap_lt HY.out)).trans HY.out); replace HZ := Aside0.mk ((hb.block _ (heap_lt HZ.out)).trans HZ.out); clear hb)
        | (go_at_call 15; with_reducible refine (HZc.out w7).mono ?_; rintro e w8 ⟨rfl, hb⟩; replace HS := Aside0.mk (below_then HS.out HS.out.size hb); replace HX := Aside0.mk ((hb.block _ (heap_lt HX.out)).trans HX.out); replace HY := Aside0.mk ((hb.block _ (heap_lt HY.out)).trans HY.out); replace HZ := Aside0.mk ((hb.block _ (heap_lt HZ.out)).trans HZ.out); clear hb)
        | ((with_reducible refine gate_store (t := 25) (p := 9) (v := .tmp 55) rfl ?_); refine wpList_store_row rfl 25 (.tmp 9) (.tmp 55) rfl gz (u8s z32) rfl rfl 25 (u8s a) HZ.out (HI.out z32 rfl) (by rw [u8s_size, u8s_size, Hab.out.1]; rfl) (u8s_one z32) ?_; replace HS := Aside0.mk (below_setRow HS.out HG.out.1 (u8s z32)); replace HZ := Aside0.mk (setRow_heap w8 gz (u8s a) (u8s z32) 25 _ HZ.out); replace HX := Aside0.mk ((setRow_other w8 gz gx (u8s z32) (Nat.ne_of_lt HG.out.2.1)).trans HX.out); replace HY := Aside0.mk ((setRow_other w8 gz gy (u8s z32) (Nat.ne_of_lt HG.out.2.2)).trans HY.out); generalize w8.setRow gz (u8s z32) = w9 at *)
        | ((with_reducible refine gate_dst (N := 72) rfl ?_); refine event_run_g (v := .agg (u8s z32)) (by rfl) (exec_load_row 25 (.tmp 9) rfl gz rfl 25 (u8s z32) (0, 0) _ HZ.out Try.underlying25 rfl (HI.out z32 rfl)) ?_)
        | ((with_reducible refine gate_dst (N := 73) rfl ?_); refine event_run_g (v := .agg (u8s z32)) (w1 := w9) (by rfl) (by kernel_rfl) ?_)
        | (go_at_call 17; with_reducible refine (H17.out w9).mono ?_; rintro e w11 ⟨rfl, hd⟩; have hb : Below w9.heap.size w9 w11 := by { obtain ⟨n, rfl⟩ := hd; exact pw_below_drewN (Below.refl _ _) n }; replace HS := Aside0.mk (below_then HS.out HS.out.size hb); replace HX := Aside0.mk ((hb.block _ (heap_lt HX.out)).trans HX.out); replace HY := Aside0.mk ((hb.block _ (heap_lt HY.out)).trans HY.out); clear hb hd; have hva := HCVa.out w11 HS.out; have hvb := HCVb.out w11 HS.out))
  all_goals
    clear hva hvb HZc H17
    rcases Hcc.out with ⟨hl, hc⟩ | ⟨hl, he, hc⟩ | ⟨hl, he, hc⟩ <;> first
      | (exfalso; have h1 : L = true := by assumption
         have h2 : L = false := by assumption
         rw [h1] at h2; cases h2)
      | (exfalso; have h1 : (!A.toList == B.toList) = true := by assumption
         have h2 : (A.toList == B.toList) = true := by assumption
         rw [h2] at h1; cases h1)
      | (exfalso; have h1 : (!A.toList == B.toList) = false := by assumption
         have h2 : (A.toList == B.toList) = false := by assumption
         rw [h2] at h1; cases h1)
      | skip
  all_goals
    have hlx := Hless.out
    rw [hl] at hlx
    rw [hc] at H18
    refine start_ (n := 16) (S := fun w' => w'.heap[gx]? = some (.cells (u8s a) 25 (0, 0)) ∧ w'.heap[gy]? = some (.cells (u8s b) 25 (0, 0))) (ds := []) #[false, false, false, false, false, false, false, false, false, false, false, false, false, false, false, false] (by kernel_rfl) rfl rfl ⟨HX.out, HY.out⟩ (fun hHeld => ?_)
    refine pure_ (i := 3) (N := some 96) (v := ?_) (a' := ?_) #[false, false, false, true, false, false, false, false, false, false, false, false, false, false, false, false] rfl rfl (by kernel_rfl) (fun _ _ _ h => h) (Or.inl ⟨by rfl, ?_⟩) ?_ ?_
    rotate_left
    · intro w'
      go_simp
      with_reducible rfl
    rotate_left
    · simp only [Act.put, List.setIfInBounds_toArray, List.set_cons_zero, List.set_cons_succ, i64_w, i32_w]
      rfl
    refine take_ (i := 0) (N := some 93) (v := ?_) (a' := ?_) #[true, false, false, true, false, false, false, false, false, false, false, false, false, false, false, false] rfl rfl (by kernel_rfl) (fun _ _ _ h => h) (Or.inl ⟨by rfl, ?_⟩) hHeld ?_ ?_
    rotate_left
    · rintro w' ⟨s0, s1⟩
      refine exec_load_row 25 (.tmp 7) ?_ gx ?_ 25 (u8s a) (0, 0) _ s0 Try.underlying25 rfl (HI.out a Hab.out.1) <;> rfl
    rotate_left
    · simp only [Act.put, List.setIfInBounds_toArray, List.set_cons_zero, List.set_cons_succ, i64_w, i32_w]
      rfl
    refine take_ (i := 1) (N := some 94) (v := ?_) (a' := ?_) #[true, true, false, true, false, false, false, false, false, false, false, false, false, false, false, false] rfl rfl (by kernel_rfl) (fun _ _ _ h => h) (Or.inl ⟨by rfl, ?_⟩) hHeld ?_ ?_
    rotate_left
    · rintro w' ⟨s0, s1⟩
      refine exec_load_row 25 (.tmp 8) ?_ gy ?_ 25 (u8s b) (0, 0) _ s1 Try.underlying25 rfl (HI.out b Hab.out.2) <;> rfl
    rotate_left
    · simp only [Act.put, List.setIfInBounds_toArray, List.set_cons_zero, List.set_cons_succ, i64_w, i32_w]
      rfl
    refine one_ (i := 2) (N := some 95) #[true, true, true, true, false, false, false, false, false, false, false, false, false, false, false, false] rfl rfl (by kernel_rfl) (by decide) (fun K hK => ?_)
    refine goes_ Try.func18 (by kernel_rfl) rfl #[.agg (u8s a), .agg (u8s b)] (by rfl) rfl rfl (by simp only [List.map_toArray, List.map_cons, List.map_nil]; rfl) ?_
    refine Calls.mono (H18.out _) ?_
    rintro e w12 ⟨rfl, hb12⟩
    refine ⟨_, rfl, ?_⟩
    have sx2 := (hb12.block _ (heap_lt HX.out)).trans HX.out
    have sy2 := (hb12.block _ (heap_lt HY.out)).trans HY.out
    refine hK.out _ _ ⟨sx2, sy2⟩ (fun hHeld => ?_)
    clear hK K
    refine norm_ (a' := ?_) ?_ ?_
    rotate_left
    · show Act.put _ (some 95) _ = _
      simp only [Act.put, List.setIfInBounds_toArray, List.set_cons_zero, List.set_cons_succ, i64_w, i32_w]
      rfl
    refine pure_ (i := 4) (N := some 97) (v := ?_) (a' := ?_) #[true, true, true, true, true, false, false, false, false, false, false, false, false, false, false, false] rfl rfl (by kernel_rfl) (fun _ _ _ h => h) (Or.inl ⟨by rfl, ?_⟩) ?_ ?_
    rotate_left
    · intro w'
      go_simp
      with_reducible rfl
    rotate_left
    · simp only [Act.put, List.setIfInBounds_toArray, List.set_cons_zero, List.set_cons_succ, i64_w, i32_w]
      rfl
    refine pure_ (i := 5) (N := some 98) (v := ?_) (a' := ?_) #[true, true, true, true, true, true, false, false, false, false, false, false, false, false, false, false] rfl rfl (by kernel_rfl) (fun _ _ _ h => h) (Or.inl ⟨by rfl, ?_⟩) ?_ ?_
    rotate_left
    · intro w'
      go_simp
      with_reducible rfl
    rotate_left
    · simp only [Act.put, List.setIfInBounds_toArray, List.set_cons_zero, List.set_cons_succ, i64_w, i32_w]
      rfl
    refine pure_ (i := 11) (N := some 104) (v := ?_) (a' := ?_) #[true, true, true, true, true, true, false, false, false, false, false, true, false, false, false, false] rfl rfl (by kernel_rfl) (fun _ _ _ h => h) (Or.inl ⟨by rfl, ?_⟩) ?_ ?_
    rotate_left
    · intro w'
      go_simp
      with_reducible rfl
    rotate_left
    · simp only [Act.put, List.setIfInBounds_toArray, List.set_cons_zero, List.set_cons_succ, i64_w, i32_w]
      rfl
    refine pure_ (i := 12) (N := some 105) (v := ?_) (a' := ?_) #[true, true, true, true, true, true, false, false, false, false, false, true, true, false, false, false] rfl rfl (by kernel_rfl) (fun _ _ _ h => h) (Or.inl ⟨by rfl, ?_⟩) ?_ ?_
    rotate_left
    · intro w'
      go_simp
      with_reducible rfl
    rotate_left
    · simp only [Act.put, List.setIfInBounds_toArray, List.set_cons_zero, List.set_cons_succ, i64_w, i32_w]
      rfl
    refine take_ (i := 6) (N := some 99) (v := ?_) (a' := ?_) #[true, true, true, true, true, true, true, false, false, false, false, true, true, false, false, false] rfl rfl (by kernel_rfl) (fun _ _ _ h => h) (Or.inl ⟨by rfl, ?_⟩) hHeld ?_ ?_
    rotate_left
    · rintro w' ⟨s0, s1⟩
      refine exec_load_row 25 (.tmp 7) ?_ gx ?_ 25 (u8s a) (0, 0) _ s0 Try.underlying25 rfl (HI.out a Hab.out.1) <;> rfl
    rotate_left
    · simp only [Act.put, List.setIfInBounds_toArray, List.set_cons_zero, List.set_cons_succ, i64_w, i32_w]
      rfl
    refine take_ (i := 8) (N := some 101) (v := ?_) (a' := ?_) #[true, true, true, true, true, true, true, false, true, false, false, true, true, false, false, false] rfl rfl (by kernel_rfl) (fun _ _ _ h => h) (Or.inl ⟨by rfl, ?_⟩) hHeld ?_ ?_
    rotate_left
    · rintro w' ⟨s0, s1⟩
      refine exec_load_row 25 (.tmp 8) ?_ gy ?_ 25 (u8s b) (0, 0) _ s1 Try.underlying25 rfl (HI.out b Hab.out.2) <;> rfl
    rotate_left
    · simp only [Act.put, List.setIfInBounds_toArray, List.set_cons_zero, List.set_cons_succ, i64_w, i32_w]
      rfl
    refine one_ (i := 7) (N := some 100) #[true, true, true, true, true, true, true, true, true, false, false, true, true, false, false, false] rfl rfl (by kernel_rfl) (by decide) (fun K hK => ?_)
    refine goes_ Try.func16 (by kernel_rfl) rfl #[.agg (u8s a)] (by rfl) rfl rfl (by simp only [List.map_toArray, List.map_cons, List.map_nil]; rfl) ?_
    refine Calls.mono (H16.out _) ?_
    rintro e w13 ⟨rfl, hb13⟩
    refine ⟨_, rfl, ?_⟩
    have sx3 := (hb13.block _ (heap_lt sx2)).trans sx2
    have sy3 := (hb13.block _ (heap_lt sy2)).trans sy2
    refine hK.out _ _ ⟨sx3, sy3⟩ (fun hHeld => ?_)
    clear hK K
    refine norm_ (a' := ?_) ?_ ?_
    rotate_left
    · show Act.put _ (some 100) _ = _
      simp only [Act.put, List.setIfInBounds_toArray, List.set_cons_zero, List.set_cons_succ, i64_w, i32_w]
      rfl
    refine one_ (i := 9) (N := some 102) #[true, true, true, true, true, true, true, true, true, true, false, true, true, false, false, false] rfl rfl (by kernel_rfl) (by decide) (fun K hK => ?_)
    refine goes_ Try.func16 (by kernel_rfl) rfl #[.agg (u8s b)] (by rfl) rfl rfl (by simp only [List.map_toArray, List.map_cons, List.map_nil]; rfl) ?_
    refine Calls.mono (H16b.out _) ?_
    rintro e w14 ⟨rfl, hb14⟩
    refine ⟨_, rfl, ?_⟩
    have sx4 := (hb14.block _ (heap_lt sx3)).trans sx3
    have sy4 := (hb14.block _ (heap_lt sy3)).trans sy3
    refine hK.out _ _ ⟨sx4, sy4⟩ (fun hHeld => ?_)
    clear hK K
    refine norm_ (a' := ?_) ?_ ?_
    rotate_left
    · show Act.put _ (some 102) _ = _
      simp only [Act.put, List.setIfInBounds_toArray, List.set_cons_zero, List.set_cons_succ, i64_w, i32_w]
      rfl
    refine pure_ (i := 10) (N := some 103) (v := ?_) (a' := ?_) #[true, true, true, true, true, true, true, true, true, true, true, true, true, false, false, false] rfl rfl (by kernel_rfl) (fun _ _ _ h => h) (Or.inl ⟨by rfl, ?_⟩) ?_ ?_
    rotate_left
    · intro w'
      go_simp
      with_reducible rfl
    rotate_left
    · simp only [Act.put, List.setIfInBounds_toArray, List.set_cons_zero, List.set_cons_succ, i64_w, i32_w]
      rfl
    refine pure_ (i := 13) (N := some 106) (v := ?_) (a' := ?_) #[true, true, true, true, true, true, true, true, true, true, true, true, true, true, false, false] rfl rfl (by kernel_rfl) (fun _ _ _ h => h) (Or.inl ⟨by rfl, ?_⟩) ?_ ?_
    rotate_left
    · intro w'
      go_simp
      with_reducible rfl
    rotate_left
    · simp only [Act.put, List.setIfInBounds_toArray, List.set_cons_zero, List.set_cons_succ, i64_w, i32_w]
      rfl
    refine pure_ (i := 14) (N := some 107) (v := ?_) (a' := ?_) #[true, true, true, true, true, true, true, true, true, true, true, true, true, true, true, false] rfl rfl (by kernel_rfl) (fun _ _ _ h => h) (Or.inl ⟨by rfl, ?_⟩) ?_ ?_
    rotate_left
    · intro w'
      go_simp
      with_reducible rfl
    rotate_left
    · simp only [Act.put, List.setIfInBounds_toArray, List.set_cons_zero, List.set_cons_succ, i64_w, i32_w]
      rfl
    refine pure_ (i := 15) (N := some 6) (v := ?_) (a' := ?_) #[true, true, true, true, true, true, true, true, true, true, true, true, true, true, true, true] rfl rfl (by kernel_rfl) (fun _ _ _ h => h) (Or.inl ⟨by rfl, ?_⟩) ?_ ?_
    rotate_left
    · intro w'
      go_simp
      with_reducible rfl
    rotate_left
    · simp only [Act.put, List.setIfInBounds_toArray, List.set_cons_zero, List.set_cons_succ, i64_w, i32_w]
      rfl
    refine done_ (by kernel_rfl) ?_
    go_wp2
    go_ret
    have b1 := below_then HS.out.drew HS.out.drew.size hb12
    have b2 := below_then b1 b1.size hb13
    exact ⟨rfl, below_then b2 b2.size hb14⟩
end Go.Proofs.Ytcagmiglgpjcjaa.Sh
