/-
  The walk of name.Runes.
-/
import Derived.Test.YtacdiamflgcnbaaDoorNmShelf
import Derived.Test.YtacdiamflgcnbaaDoorNmKey
import Derived.Test.YtacdiamflgcnbaaDoorWMore
import Derived.Test.YtacdiamflgcnbaaDoorWLast
import Derived.Test.YtacdiamflgcnbaaDoorWWords
import Derived.Test.YtacdiamflgcnbaaDoorWApart
import Derived.Lib.OthersKept
import Derived.BigCall
set_option linter.unusedVariables false
set_option linter.unusedSimpArgs false
namespace Go.Proofs.YtacdiamflgcnbaaDoor.Nm
open Go.RowKit Go.Proofs.YtacdiamflgcnbaaDoorW.PrintWords Go.Proofs.YtacdiamflgcnbaaDoorW.PrintLast Go.Proofs.YtacdiamflgcnbaaDoorW.PrintMore
theorem width_pos (s : ByteArray) (pos : Nat) (h : pos < s.size) : 1 ≤ (Utf8.decode s pos).2 := by
  by_cases ha : (s[pos]'h).toNat < 128
  · rw [decode_ascii s pos h ha]
    exact Nat.le_refl _
  · exact (decode_high s pos h (by omega)).2
def runesFrom (s : ByteArray) : Nat → Nat → List Int
  | 0, _ => []
  | f + 1, pos => if pos < s.size then ((Utf8.decode s pos).1 : Int) :: runesFrom s f (pos + (Utf8.decode s pos).2) else []
theorem runesFrom_end (s : ByteArray) (f pos : Nat) (h : ¬ pos < s.size) : runesFrom s f pos = [] := by
  cases f with
  | zero => rfl
  | succ f => simp [runesFrom, h]
def runesL (s : ByteArray) : List Int := runesFrom s s.size 0
theorem info21 : (Tryd.prog.info? 21).map (fun i => (i.zero, i.size, i.bytes)) = some (some (.int .i32 0), 1, 4) := by kernel_rfl
set_option maxRecDepth 100000 in
set_option maxHeartbeats 4000000 in
theorem runes15 (s : ByteArray) (w : World) (hs : s.size ≤ 1099511627776) (hT : Tabs w) :
    Calls Tryd.prog 15 #[.string s] w fun e w' => ∃ v0_ : Value, e = .returned (.tuple #[v0_, .bool (Lib.validD s.data.toList)]) ∧ Kd.R (Kd.int .i32) 21 w' w.heap.size (fun _ => True) v0_ (if Lib.validD s.data.toList = true then runesL s else []) ∧ Below w.heap.size w w' := by
  have HV := Aside0.mk (valid32 s w (by omega) hT)
  clear hT
  generalize Lib.validD s.data.toList = bv at *
  go_enter Tryd.func15, Tryd.ntmps15
  cases bv with
  | false =>
    go_wp2_with (go_at_call 32; refine HV.out.mono ?_; rintro e w2 ⟨rfl, hb⟩)
    go_ret2
    exact ⟨_, rfl, Kd.R_nil _ _ _ _ _, hb⟩
  | true =>
    go_wp2_with (go_at_call 32; refine HV.out.mono ?_; rintro e w2 ⟨rfl, hb⟩)
    clear HV
    go_loopw [4] (fun v wr => ∃ (pos fuel : Nat) (acc : List Int), wr.heap[w2.heap.size]? = some (.stringIter s pos) ∧ Below w.heap.size w wr ∧ Kd.R (Kd.int .i32) 21 wr w.heap.size (fun k => k ≠ w2.heap.size) v acc ∧ acc ++ runesFrom s fuel pos = runesL s ∧ s.size ≤ pos + fuel ∧ acc.length ≤ pos) (fun _ wr => s.size - wr.iterPos w2.heap.size)
    case atStart => exact ⟨0, s.size, [], by simpa using World.iter_heap w2 s 0, hb.alloc hb.size _, Kd.R_nil _ _ _ _ _, rfl, by omega, by simp⟩
    case round =>
      obtain ⟨pos, fuel, acc, hit, hB, hR, hacc, hfu, hal⟩ := hrel
      have hsz : w2.heap.size < wr.heap.size := (Array.getElem?_eq_some_iff.1 hit).1
      have hwb := hb.size
      by_cases hp : pos < s.size
      · have hnx : ∀ ty, (Instr.next (.pointer (some ⟨w2.heap.size, 0, none⟩)) true ty).run Tryd.prog wr = _ := fun ty => Lib.run_next_any_at wr w2.heap.size s pos ty hit hp
        have hwd := width_pos s pos hp
        obtain ⟨f, rfl⟩ : ∃ f, fuel = f + 1 := ⟨fuel - 1, by omega⟩
        have hit2 := Lib.iterAt_heap wr w2.heap.size s pos (pos + (Utf8.decode s pos).2) hit
        have hB2 := Lib.below_iterAt hB hwb s (pos + (Utf8.decode s pos).2)
        have hR2 : Kd.R (Kd.int .i32) 21 (wr.iterAt w2.heap.size s (pos + (Utf8.decode s pos).2)) w.heap.size (fun k => k ≠ w2.heap.size) u4 acc := Kd.R_step hR (fun k hk _ => Lib.iterAt_other wr _ k s _ hk)
        have hsz2 : w2.heap.size < (wr.iterAt w2.heap.size s (pos + (Utf8.decode s pos).2)).heap.size := by rw [Lib.iterAt_size]; exact hsz
        simp only [runesFrom, if_pos hp] at hacc
        have HP : Aside0 (wr.iterPos w2.heap.size = pos) := ⟨by simp [World.iterPos, hit]⟩
        have HA := Aside0.mk hacc
        have HR := Aside0.mk hR2
        have HB := Aside0.mk hB2
        have HI := Aside0.mk hit2
        clear hR hB hit hacc hR2 hB2 hit2
        generalize wr.iterAt w2.heap.size s (pos + (Utf8.decode s pos).2) = w3 at *
        generalize hd : Utf8.decode s pos = dd at *
        obtain ⟨rv, wd⟩ := dd
        simp only at *
        have hl : (acc.length + 1) * 4 ≤ 140737488355328 := by omega
        have hpn : wr.iterPos w2.heap.size = pos := HP.out
        clear hd
        go_wp2_with (at_builtin; refine Kd.R_append (Kd.int .i32) (w0 := w) w.heap.size rfl (.tmp 15) (.tmp 17) 27 21 (.int .i32 0) 4 rfl Tryd.underlying27 info21 rfl (by decide) (by omega) u4 acc (rv : Int) [.int .i32 (rv : Int)] (fun k => k ≠ w2.heap.size) (fun _ => False) rfl rfl rfl (fun _ hk => hk.elim) (fun k hk => by omega) HR.out HB.out (by omega) hl ?_; intro v4 w4 ho hb4 hg hat)
        have hit4 : w4.heap[w2.heap.size]? = some (.stringIter s (pos + wd)) := (hg.block _ hsz2 (fun e => HR.out.1 _ e.symm rfl)).trans HI.out
        go_roundw
        case rel => exact ⟨pos + wd, f, acc ++ [(rv : Int)], hit4, hb4, ho, by rw [← HA.out]; simp, by omega, by simp; omega⟩
        case measure =>
          simp only [World.iterPos, hit4]
          simp only [World.iterPos] at hpn
          rw [hpn]
          omega
      · have hnx : ∀ ty, (Instr.next (.pointer (some ⟨w2.heap.size, 0, none⟩)) true ty).run Tryd.prog wr = _ := fun ty => Lib.run_next_end_at wr w2.heap.size s pos ty hit hp
        rw [runesFrom_end s fuel pos hp, List.append_nil] at hacc
        have HA := Aside0.mk hacc
        have HR := Aside0.mk hR
        have HB := Aside0.mk hB
        clear hR hB hacc
        go_wp2
        go_ret2
        exact ⟨_, rfl, by rw [← HA.out]; exact Kd.R_mono HR.out (fun _ _ => trivial), HB.out⟩
theorem tabs_step {w w1 : World} (h : Aside0 (Tabs w)) (hb : Aside0 (Below w.heap.size w w1)) : Aside0 (Tabs w1) := ⟨Utf8Tabs_below h.out hb.out⟩
theorem tabs_drewN {w : World} {n : Nat} (h : Aside0 (Tabs w)) : Aside0 (Tabs (w.drewN n)) := h
theorem tabs_drew {w : World} (h : Aside0 (Tabs w)) : Aside0 (Tabs w.drew) := h
theorem tabs_alloc {w : World} {o : Obj} (h : Aside0 (Tabs w)) : Aside0 (Tabs (w.alloc o)) := tabs_step h ⟨(Below.refl _ _).alloc (Nat.le_refl _) _⟩
def name_Runes.f (a0 : ByteArray) : Option (List Int × Bool) := if a0.size ≤ 1099511627776 then some (if Lib.validD a0.data.toList = true then runesL a0 else [], Lib.validD a0.data.toList) else none
theorem name_Runes.calls (a0 : ByteArray) (r1 : List Int) (r2 : Bool) (w : World) (h : name_Runes.f a0 = some (r1, r2)) (hT : Aside0 (Tabs w) := by first | assumption | (with_reducible repeat (first | apply tabs_drewN | apply tabs_drew | apply tabs_alloc)) <;> (first | assumption | exact tabs_step ‹_› ‹_›)) :
    Calls Tryd.prog 15 #[.string a0] w fun e w' => ∃ v0_ : Value, e = .returned (.tuple #[v0_, .bool r2]) ∧ Kd.R (Kd.int .i32) 21 w' w.heap.size (fun _ => True) v0_ r1 ∧ Below w.heap.size w w' := by
  unfold name_Runes.f at h
  split at h
  · simp only [Option.some.injEq, Prod.mk.injEq] at h
    obtain ⟨rfl, rfl⟩ := h
    exact runes15 a0 w (by assumption) hT.out
  · cases h
end Go.Proofs.YtacdiamflgcnbaaDoor.Nm
