/-
  The law NameFolds: the walk.
-/
import Derived.Test.YtacdiamflgcnbaaDoorPNax2
import Derived.Deep.QuietTactic
import Derived.BigQuiet
set_option linter.unusedVariables false
set_option linter.unusedSimpArgs false
namespace Go.Proofs.YtacdiamflgcnbaaDoor.Nm
open Go.RowKit Go.Proofs.YtacdiamflgcnbaaDoorW.PrintWords Go.Proofs.YtacdiamflgcnbaaDoorW.PrintLast Go.Proofs.YtacdiamflgcnbaaDoorW.PrintMore Go.Proofs.YtacdiamflgcnbaaDoor.PNa
theorem known60 : flintlaw2_known.f 60 = some true := by decide +kernel
theorem foldB_twice (c : UInt8) : foldB (foldB c) = foldB c := by
  by_cases h : 65 ≤ c.toNat ∧ c.toNat ≤ 90
  · rw [foldB_pos h]
    apply foldB_neg
    rw [UInt8.toNat_add]
    show ¬ (65 ≤ (c.toNat + 32) % 256 ∧ (c.toNat + 32) % 256 ≤ 90)
    omega
  · rw [foldB_neg h, foldB_neg h]
theorem foldB_val (c : UInt8) : ((foldB c).toNat : Int) = if 65 ≤ c.toNat ∧ c.toNat ≤ 90 then (c.toNat : Int) + 32 else c.toNat := by
  split
  · rename_i h
    rw [foldB_pos h, UInt8.toNat_add]
    show (((c.toNat + 32) % 256 : Nat) : Int) = _
    omega
  · rename_i h
    rw [foldB_neg h]
set_option maxRecDepth 1000000 in
set_option maxHeartbeats 8000000 in
theorem folds4 (s : ByteArray) (w : World) (hs : s.size ≤ 140737488351232) (hT : Aside0 (Tabs w)) :
    Calls Tryd.prog 4 #[.string s] w fun e w' => e = .returned (.bool true) ∧ Below w.heap.size w w' := by
  have HK := Aside0.mk (flintlaw2_known.calls 60 true w known60 hT)
  clear hT
  go_enter Tryd.func4, Tryd.ntmps4
  by_cases hbig : (s.size : Int) > 32768
  · go_wp2_with (go_at_call 10; refine HK.out.mono ?_; rintro e w1 ⟨rfl, hb1⟩)
    go_ret
    exact ⟨rfl, hb1⟩
  · obtain ⟨f, hf⟩ : ∃ f : ByteArray, f = ⟨(s.data.toList.map foldB).toArray⟩ := ⟨_, rfl⟩
    have hfs : f.size = s.size := by rw [hf]; show (s.data.toList.map foldB).toArray.size = s.size; rw [List.size_toArray, List.length_map]; exact Array.length_toList
    have hff : (⟨(f.data.toList.map foldB).toArray⟩ : ByteArray) = f := by
      rw [hf]
      simp [foldB_twice]
    have H1 := Aside0.mk (fun W => fold13 s W hs)
    have H2 := Aside0.mk (fun W => fold13 f W (by omega))
    rw [hff] at H2
    rw [← hf] at H1
    have HV : Aside0 (∀ i (h : i < s.size) (h2 : i < f.size), ((f[i]'h2).toNat : Int) = if 65 ≤ (s[i]'h).toNat ∧ (s[i]'h).toNat ≤ 90 then ((s[i]'h).toNat : Int) + 32 else (s[i]'h).toNat) := ⟨fun i h h2 => by
      subst hf
      rw [← foldB_val]
      simp [ByteArray.getElem_eq_getElem_data]⟩
    have HS := Aside0.mk hfs
    clear hff hf hs hfs
    have q0 : f.size = s.size := HS.out
    go_wp2_with (first
      | (go_at_call 10; refine HK.out.mono ?_; rintro e w1 ⟨rfl, hb1⟩)
      | (go_at_call 13; refine (H1.out _).mono ?_; rintro e w2 ⟨rfl, hb2⟩; clear H1)
      | (go_at_call 13; refine (H2.out _).mono ?_; rintro e w3 ⟨rfl, hb3⟩))
    have hB0 : Below w.heap.size w w3 := (hb1.trans (hb2.mono hb1.size)).trans (hb3.mono (Nat.le_trans hb1.size hb2.size))
    clear hb1 hb2 hb3 H2
    go_loopw [4] (fun v wr => ∃ i : Nat, i ≤ s.size ∧ v = .int .i64 (i : Nat) ∧ Below w.heap.size w wr) (fun v _ => s.size - (intOf v).toNat)
    case atStart => exact ⟨0, Nat.zero_le _, rfl, hB0⟩
    case round =>
      clear hB0
      obtain ⟨i, hi, rfl, hB⟩ := hrel
      have HB := Aside0.mk hB
      clear hB
      by_cases hlt : i < s.size
      · have hlf : i < f.size := by omega
        have hv := HV.out i hlt hlf
        have q1 : (0 : Int) ≤ (i : Int) := by omega
        have q2 : (i : Int) < (s.size : Int) := by omega
        have q3 : (i : Int) < (f.size : Int) := by omega
        have hc256 := toNat_lt s[i]
        by_cases h1 : 65 ≤ s[i].toNat ∧ s[i].toNat ≤ 90
        · rw [if_pos h1] at hv
          have e1 : (65 : Int) ≤ (s[i].toNat : Int) := by omega
          have e2 : (s[i].toNat : Int) ≤ 90 := by omega
          have e3 : IntKind.u8.wrap ((s[i].toNat : Int) + 32) = (s[i].toNat : Int) + 32 := by
            show ((s[i].toNat : Int) + 32) % 256 = _
            omega
          clear h1 HV
          go_wp2
          go_quiet (skip)
          go_wp2
          go_roundw
          case rel => exact ⟨i + 1, by omega, by go_num, pw_below_drewN HB.out _⟩
          case measure => simp [intOf]; omega
        · rw [if_neg h1] at hv
          by_cases e1 : (65 : Int) ≤ (s[i].toNat : Int)
          · have e2 : ¬ (s[i].toNat : Int) ≤ 90 := by omega
            clear h1 HV
            go_wp2
            go_quiet (skip)
            go_wp2
            go_roundw
            case rel => exact ⟨i + 1, by omega, by go_num, pw_below_drewN HB.out _⟩
            case measure => simp [intOf]; omega
          · have e2 : (s[i].toNat : Int) < 65 := by omega
            clear h1 HV
            go_wp2
            go_quiet (skip)
            go_wp2
            go_roundw
            case rel => exact ⟨i + 1, by omega, by go_num, pw_below_drewN HB.out _⟩
            case measure => simp [intOf]; omega
      · go_wp2
        go_ret
        exact ⟨rfl, HB.out⟩
end Go.Proofs.YtacdiamflgcnbaaDoor.Nm
