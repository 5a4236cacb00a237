/-
  The walk of name.Quote.
-/
import Derived.Test.YtacdiamflgcnbaaDoorNmRunes
import Derived.Test.YtacdiamflgcnbaaDoorNmBuild
import Derived.Test.YtacdiamflgcnbaaDoorNmHex
import Derived.Test.YtacdiamflgcnbaaDoorNmPrefix
set_option linter.unusedVariables false
set_option linter.unusedSimpArgs false
namespace Go.Proofs.YtacdiamflgcnbaaDoor.Nm
open Go.RowKit Go.Proofs.YtacdiamflgcnbaaDoorW.PrintWords Go.Proofs.YtacdiamflgcnbaaDoorW.PrintLast Go.Proofs.YtacdiamflgcnbaaDoorW.PrintMore
def pre (s p : ByteArray) : Bool := decide (p.size ≤ s.size) && ((s.extract 0 p.size).toList == p.toList)
theorem pre_ok (s p : ByteArray) : strings_HasPrefix.f s p = some (pre s p) := by
  unfold strings_HasPrefix.f stringslite_HasPrefix.f pre
  by_cases h : (s.size : Int) ≥ (p.size : Int)
  · have h2 : p.size ≤ s.size := by omega
    simp [h, h2]
  · have h2 : ¬ p.size ≤ s.size := by omega
    simp [h, h2]
/-- What one rune is written as. -/
def piece (s : ByteArray) (pos : Nat) : ByteArray :=
  let r := (Utf8.decode s pos).1
  if r = 65533 ∧ pre (s.extract pos s.size) (Utf8.encode (r : Nat)) = false then hexB (s.get! pos).toNat
  else if r = 34 ∨ r = 92 then ⟨#[92]⟩ ++ Utf8.encode (r : Nat)
  else if r < 32 ∨ r = 127 then hexB r
  else Utf8.encode (r : Nat)
def quoteFrom (s : ByteArray) : Nat → Nat → List UInt8
  | 0, _ => []
  | f + 1, pos => if pos < s.size then (piece s pos).data.toList ++ quoteFrom s f (pos + (Utf8.decode s pos).2) else []
theorem quoteFrom_end (s : ByteArray) (f pos : Nat) (h : ¬ pos < s.size) : quoteFrom s f pos = [] := by
  cases f with
  | zero => rfl
  | succ f => simp [quoteFrom, h]
def quoteL (s : ByteArray) : List UInt8 := [34] ++ quoteFrom s s.size 0 ++ [34]
theorem encode_size (r : Int) : (Utf8.encode r).size ≤ 4 := by
  unfold Utf8.encode
  simp only
  repeat' split
  all_goals first | (show 1 ≤ 4; omega) | (show 2 ≤ 4; omega) | (show 3 ≤ 4; omega) | (show 4 ≤ 4; omega)
theorem hexB_size (c : Nat) : (hexB c).size = 4 := rfl
theorem strCells_eq (s : ByteArray) : Lib.strCells s = Lib.byteCells s.data.toList := by
  simp [Lib.strCells, Lib.byteCells]

theorem width_le (s : ByteArray) (pos : Nat) : (Utf8.decode s pos).2 ≤ 4 := by
  simp only [Utf8.decode]
  repeat' split
  all_goals simp [Utf8.runeError]
theorem piece_size (s : ByteArray) (pos : Nat) : (piece s pos).size ≤ 8 := by
  unfold piece
  simp only
  have h1 := encode_size ((Utf8.decode s pos).1 : Nat)
  have h2 := hexB_size (s.get! pos).toNat
  have h3 := hexB_size (Utf8.decode s pos).1
  have h4 : ((⟨#[92]⟩ : ByteArray) ++ Utf8.encode ((Utf8.decode s pos).1 : Nat)).size = 1 + (Utf8.encode ((Utf8.decode s pos).1 : Nat)).size := by
    rw [ByteArray.size_append]; rfl
  split
  · omega
  · split
    · rw [h4]; omega
    · split <;> omega
set_option maxRecDepth 1000000 in
set_option maxHeartbeats 8000000 in
theorem quote21 (s : ByteArray) (w : World) (hs : s.size ≤ 1099511627776) :
    Calls Tryd.prog 21 #[.string s] w fun e w' => e = .returned (.string ⟨(quoteL s).toArray⟩) ∧ Below w.heap.size w w' := by
  go_enter Tryd.func21, Tryd.ntmps21
  go_wp2_with (go_at_call 34; refine (writeByte w.heap.size w.heap.size [] 34 _ (Lib.IsBuilderF.of (Lib.fresh_isBuilder 59 5 w)) (by simp) (by simp)).mono ?_; rintro e w2 ⟨rfl, hI, hb, _⟩)
  have hI1 : Lib.IsBuilderF 59 5 w.heap.size w.heap.size (Lib.byteCells [34]) w2 := .inr hI
  have hb1 : Below w.heap.size w w2 := ((Below.refl _ w).alloc (Nat.le_refl _) _).trans hb
  have hlt2 : w.heap.size < w2.heap.size := by
    obtain ⟨_, v, h1, _⟩ := hI
    exact heap_lt h1
  clear hI hb
  go_loopw [] (fun wr => ∃ (pos fuel : Nat) (acc : List UInt8), Lib.IsBuilderF 59 5 w.heap.size w.heap.size (Lib.byteCells acc) wr ∧ wr.heap[w2.heap.size]? = some (.stringIter s pos) ∧ Below w.heap.size w wr ∧ acc ++ quoteFrom s fuel pos = [34] ++ quoteFrom s s.size 0 ∧ s.size ≤ pos + fuel ∧ acc.length ≤ 1 + 8 * pos ∧ pos ≤ s.size + 4) (fun wr => s.size - wr.iterPos w2.heap.size)
  case atStart => exact ⟨0, s.size, [34], hI1.alloc _, by simpa using World.iter_heap w2 s 0, hb1.alloc hb1.size _, rfl, by omega, by simp, by omega⟩
  case round =>
    clear hI1 hb1
    obtain ⟨pos, fuel, acc, hI, hit, hbw, hacc, hfu, hal, hpp⟩ := hrel
    have hsz : w2.heap.size < wr.heap.size := heap_lt hit
    by_cases hp : pos < s.size
    · have hnx : ∀ ty, (Instr.next (.pointer (some ⟨w2.heap.size, 0, none⟩)) true ty).run Tryd.prog wr = _ := fun ty => Lib.run_next_any_at wr w2.heap.size s pos ty hit hp
      have hwd := width_pos s pos hp
      have hd1 := decode_le s pos
      have hI2 := hI.iterAt hit (pos + (Utf8.decode s pos).2)
      have hit2 := Lib.iterAt_heap wr w2.heap.size s pos (pos + (Utf8.decode s pos).2) hit
      have hbw2 := Lib.below_iterAt hbw (k := w2.heap.size) (by omega) s (pos + (Utf8.decode s pos).2)
      have hsz2 : w.heap.size ≤ (wr.iterAt w2.heap.size s (pos + (Utf8.decode s pos).2)).heap.size := by rw [Lib.iterAt_size]; omega
      obtain ⟨f, rfl⟩ : ∃ f, fuel = f + 1 := ⟨fuel - 1, by omega⟩
      have hpn : Aside0 (wr.iterPos w2.heap.size = pos) := ⟨by simp [World.iterPos, hit]⟩
      simp only [quoteFrom, if_pos hp] at hacc
      have HA := Aside0.mk hacc
      have HI := Aside0.mk hI2
      have HIt := Aside0.mk hit2
      have HB := Aside0.mk hbw2
      clear hI hit hbw hacc hI2 hit2 hbw2
      generalize wr.iterAt w2.heap.size s (pos + (Utf8.decode s pos).2) = w3 at *
      have hpl : (piece s pos).size ≤ 8 := piece_size s pos
      have HLen : Aside0 ((Lib.byteCells acc).length + (piece s pos).size ≤ 140737488355328) := ⟨by rw [Lib.byteCells_length]; omega⟩
      have HW : Aside0 (∀ q x, x = piece s pos → Calls Tryd.prog 36 #[.pointer (some ⟨w.heap.size, 0, none⟩), .string x] (w3.drewN q) fun e w4 => e = .returned (.tuple #[.int .i64 x.size, .nilIface]) ∧
          ((∃ (pos fuel : Nat) (acc : List UInt8), Lib.IsBuilderF 59 5 w.heap.size w.heap.size (Lib.byteCells acc) w4 ∧ w4.heap[w2.heap.size]? = some (.stringIter s pos) ∧ Below w.heap.size w w4 ∧ acc ++ quoteFrom s fuel pos = [34] ++ quoteFrom s s.size 0 ∧ s.size ≤ pos + fuel ∧ acc.length ≤ 1 + 8 * pos ∧ pos ≤ s.size + 4) ∧ s.size - w4.iterPos w2.heap.size < s.size - wr.iterPos w2.heap.size)) := by
        refine ⟨?_⟩
        rintro q x rfl
        refine (writeString w.heap.size w.heap.size _ _ (w3.drewN q) HI.out HLen.out (show w.heap.size ≤ w3.heap.size by omega)).mono ?_
        rintro e w4 ⟨rfl, h1, b1, k1⟩
        have hi4 : w4.heap[w2.heap.size]? = some (.stringIter s (pos + (Utf8.decode s pos).2)) := k1.iter HIt.out (by omega)
        have hw4 := width_le s pos
        refine ⟨rfl, ⟨pos + (Utf8.decode s pos).2, f, acc ++ (piece s pos).data.toList, ?_, hi4, (pw_below_drewN HB.out q).trans b1, ?_, by omega, ?_, by omega⟩, ?_⟩
        · rw [Lib.byteCells_append, ← strCells_eq]; exact .inr h1
        · rw [← HA.out]; simp
        · have : (piece s pos).data.toList.length = (piece s pos).size := Array.length_toList
          simp only [List.length_append, this]; omega
        · have := hpn.out
          simp only [World.iterPos, hi4]
          simp only [World.iterPos] at this
          rw [this]; omega
      have hW3 : Aside0 (w.heap.size ≤ w3.heap.size) := ⟨by omega⟩
      have hg : s.get! pos = s[pos] := (Utf8W.get!_of_lt s pos hp)
      have hgl := toNat_lt s[pos]
      have HG := Aside0.mk hg
      clear HLen HI HB HIt HA hpn hfu hal hpp hpl hg
      have HPc : Aside0 (piece s pos = piece s pos) := ⟨rfl⟩
      generalize hpc : piece s pos = pc at *
      unfold piece at hpc
      generalize hd : Utf8.decode s pos = dd at *
      obtain ⟨r, wd⟩ := dd
      simp only at *
      have hq0 : (0 : Int) ≤ (pos : Int) := by omega
      have hq1 : (pos : Int) < (s.size : Int) := by omega
      have hq2 : (pos : Int) ≤ (s.size : Int) := by omega
      have hpc2 := Aside0.mk hpc
      clear hpc hd HPc
      by_cases h1 : r = 65533
      · subst h1
        have b1 : (((65533 : Nat) : Int) == 65533) = true := rfl
        obtain ⟨pv, hpv⟩ : ∃ pv, pre (s.extract pos s.size) (Utf8.encode ((65533 : Nat) : Int)) = pv := ⟨_, rfl⟩
        have HPre : Aside0 (strings_HasPrefix.f (s.extract pos s.size) (Utf8.encode ((65533 : Nat) : Int)) = some pv) := ⟨by rw [pre_ok, hpv]⟩
        rw [hpv] at hpc2
        clear hpv
        cases pv with
        | false =>
          have e1 : hexB s[pos].toNat = pc := by rw [← hpc2.out, if_pos ⟨rfl, rfl⟩, HG.out]
          have E1 := Aside0.mk e1
          clear hpc2 HG e1
          go_wp2_with (first
            | (go_at_call 35; refine Calls.mono (strings_HasPrefix.calls _ _ _ _ HPre.out) ?_; rintro e w' ⟨rfl, ⟨n1, rfl⟩⟩)
            | (go_at_call 37; refine Calls.mono (hex37 s[pos].toNat hgl _) ?_; rintro e w' ⟨rfl, ⟨n2, rfl⟩⟩)
            | (go_at_call 36; (first | refine Calls.mono (HW.out _ _ ?hx) ?_ | refine Calls.mono (HW.out 0 _ ?hx) ?_); (case hx => first | exact E1.out | (rw [← E1.out]; rfl) | (rw [← E1.out]; simp)); rintro e w4 ⟨rfl, hst⟩))
          go_roundw
          case rel => exact hst.1
          case measure => exact hst.2
        | true =>
          have e1 : Utf8.encode ((65533 : Nat) : Int) = pc := by
            rw [← hpc2.out]
            rfl
          have E1 := Aside0.mk e1
          clear hpc2 HG e1
          go_wp2_with (first
            | (go_at_call 35; refine Calls.mono (strings_HasPrefix.calls _ _ _ _ HPre.out) ?_; rintro e w' ⟨rfl, ⟨n1, rfl⟩⟩)
            | (go_at_call 37; refine Calls.mono (hex37 s[pos].toNat hgl _) ?_; rintro e w' ⟨rfl, ⟨n2, rfl⟩⟩)
            | (go_at_call 36; (first | refine Calls.mono (HW.out _ _ ?hx) ?_ | refine Calls.mono (HW.out 0 _ ?hx) ?_); (case hx => first | exact E1.out | (rw [← E1.out]; rfl) | (rw [← E1.out]; simp)); rintro e w4 ⟨rfl, hst⟩))
          go_roundw
          case rel => exact hst.1
          case measure => exact hst.2
      · have b1 : ((r : Int) == 65533) = false := by simp; omega
        have HPre : Aside0 (strings_HasPrefix.f (s.extract pos s.size) (Utf8.encode (r : Int)) = some (pre (s.extract pos s.size) (Utf8.encode (r : Int)))) := ⟨by rw [pre_ok]⟩
        have hpc3 := hpc2.out
        rw [if_neg (fun h => h1 h.1)] at hpc3
        clear hpc2 HG
        by_cases h2 : r = 34
        · subst h2
          rw [if_pos (.inl rfl)] at hpc3
          have E1 := Aside0.mk hpc3
          clear hpc3
          go_wp2_with (first
            | (go_at_call 35; refine Calls.mono (strings_HasPrefix.calls _ _ _ _ HPre.out) ?_; rintro e w' ⟨rfl, ⟨n1, rfl⟩⟩)
            | (go_at_call 37; refine Calls.mono (hex37 s[pos].toNat hgl _) ?_; rintro e w' ⟨rfl, ⟨n2, rfl⟩⟩)
            | (go_at_call 36; (first | refine Calls.mono (HW.out _ _ ?hx) ?_ | refine Calls.mono (HW.out 0 _ ?hx) ?_); (case hx => first | exact E1.out | (rw [← E1.out]; rfl) | (rw [← E1.out]; simp)); rintro e w4 ⟨rfl, hst⟩))
          go_roundw
          case rel => exact hst.1
          case measure => exact hst.2
        · have b2 : ((r : Int) == 34) = false := by simp; omega
          by_cases h3 : r = 92
          · subst h3
            rw [if_pos (.inr rfl)] at hpc3
            have E1 := Aside0.mk hpc3
            clear hpc3
            go_wp2_with (first
              | (go_at_call 37; refine Calls.mono (hex37 _ hgl _) ?_; rintro e w' ⟨rfl, ⟨n2, rfl⟩⟩)
              | (go_at_call 36; (first | refine Calls.mono (HW.out _ _ ?hx) ?_ | refine Calls.mono (HW.out 0 _ ?hx) ?_); (case hx => first | exact E1.out | (rw [← E1.out]; rfl) | (rw [← E1.out]; simp)); rintro e w4 ⟨rfl, hst⟩))
            go_roundw
            case rel => exact hst.1
            case measure => exact hst.2
          · have b3 : ((r : Int) == 92) = false := by simp; omega
            rw [if_neg (by omega)] at hpc3
            by_cases h4 : r < 32
            · have q5 : (r : Int) < 32 := by omega
              have q6 : (r : Int) % 256 = (r : Int) := by omega
              rw [if_pos (.inl h4)] at hpc3
              have E1 := Aside0.mk hpc3
              clear hpc3
              go_wp2_with (first
                | (go_at_call 37; refine Calls.mono (hex37 r (by omega) _) ?_; rintro e w' ⟨rfl, ⟨n2, rfl⟩⟩)
                | (go_at_call 36; (first | refine Calls.mono (HW.out _ _ ?hx) ?_ | refine Calls.mono (HW.out 0 _ ?hx) ?_); (case hx => first | exact E1.out | (rw [← E1.out]; rfl) | (rw [← E1.out]; simp)); rintro e w4 ⟨rfl, hst⟩))
              go_roundw
              case rel => exact hst.1
              case measure => exact hst.2
            · have q5 : ¬ (r : Int) < 32 := by omega
              by_cases h5 : r = 127
              · subst h5
                rw [if_pos (.inr rfl)] at hpc3
                have E1 := Aside0.mk hpc3
                clear hpc3
                go_wp2_with (first
                  | (go_at_call 37; refine Calls.mono (hex37 127 (by omega) _) ?_; rintro e w' ⟨rfl, ⟨n2, rfl⟩⟩)
                  | (go_at_call 36; (first | refine Calls.mono (HW.out _ _ ?hx) ?_ | refine Calls.mono (HW.out 0 _ ?hx) ?_); (case hx => first | exact E1.out | (rw [← E1.out]; rfl) | (rw [← E1.out]; simp)); rintro e w4 ⟨rfl, hst⟩))
                go_roundw
                case rel => exact hst.1
                case measure => exact hst.2
              · have b6 : ((r : Int) == 127) = false := by simp; omega
                rw [if_neg (by omega)] at hpc3
                have E1 := Aside0.mk hpc3
                clear hpc3
                go_wp2_with (first
                  | (go_at_call 37; refine Calls.mono (hex37 r (by omega) _) ?_; rintro e w' ⟨rfl, ⟨n2, rfl⟩⟩)
                  | (go_at_call 36; (first | refine Calls.mono (HW.out _ _ ?hx) ?_ | refine Calls.mono (HW.out 0 _ ?hx) ?_); (case hx => first | exact E1.out | (rw [← E1.out]; rfl) | (rw [← E1.out]; simp)); rintro e w4 ⟨rfl, hst⟩))
                go_roundw
                case rel => exact hst.1
                case measure => exact hst.2
    · have hnx : ∀ ty, (Instr.next (.pointer (some ⟨w2.heap.size, 0, none⟩)) true ty).run Tryd.prog wr = _ := fun ty => Lib.run_next_end_at wr w2.heap.size s pos ty hit hp
      rw [quoteFrom_end s fuel pos hp, List.append_nil] at hacc
      have HA := Aside0.mk hacc
      have HI := Aside0.mk hI
      have HB := Aside0.mk hbw
      clear hI hbw hacc
      go_wp2_with (go_at_call 38; refine (buildString w.heap.size w.heap.size acc _ HI.out (by omega)).mono ?_; rintro e w4 ⟨rfl, _, b4, _⟩)
      go_ret
      refine ⟨?_, HB.out.trans b4⟩
      have e : quoteL s = acc ++ [34] := by rw [HA.out]; rfl
      rw [e]
      simp
      rfl
def name_Quote.f (a0 : ByteArray) : Option ByteArray := if a0.size ≤ 1099511627776 then some ⟨(quoteL a0).toArray⟩ else none
theorem name_Quote.calls (a0 : ByteArray) (r : ByteArray) (w : World) (h : name_Quote.f a0 = some r) :
    Calls Tryd.prog 21 #[.string a0] w fun e w' => e = .returned (.string r) ∧ Below w.heap.size w w' := by
  unfold name_Quote.f at h
  split at h
  · cases h; exact quote21 a0 w (by assumption)
  · cases h
end Go.Proofs.YtacdiamflgcnbaaDoor.Nm
