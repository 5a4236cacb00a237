/-
  The walks of Key, the program's and the reference's: bytes of the text, a 0, the number's eight bytes.
-/
import Derived.Test.YtacdiamflgcnbaaDoorNmFold
import Derived.Lib.AppendZeros
import Derived.Test.YtacdiamflgcnbaaDoorWMore
import Derived.Test.YtacdiamflgcnbaaDoorWLast
set_option linter.unusedVariables false
set_option linter.unusedSimpArgs false
namespace Go.Proofs.YtacdiamflgcnbaaDoor.Nm
open Go.RowKit Go.Proofs.YtacdiamflgcnbaaDoorW.PrintWords Go.Proofs.YtacdiamflgcnbaaDoorW.PrintLast Go.Proofs.YtacdiamflgcnbaaDoorW.PrintMore
theorem wp_push (w : World) {ops : Array Oper} {rest : List Oper} {o : Oper} {a : Act} {Q : Exit → Act → World → Prop} (hgd : o.guard = none) (s x : Operand)
    (ho : o.op = .call { callee := .builtin .append, args := #[s, x], argTypes := #[36, 36] }) {g cp : Nat} {l : List UInt8} {n : Nat} (hn : n = l.length) (hs : a.eval s = .slice (some ⟨g, 0, none⟩) n cp) (ad : Addr) (c : Nat) (hx : a.eval x = .slice (some ad) 1 c)
    (hR : Row w g cp l) (hl : l.length ≤ 140737488351240) (b : UInt8) (hu : w.cell? (ad.add 0) = some (.int .u8 (b.toNat : Int)))
    (h : ∀ g' cp' w', Row w' g' cp' (l ++ [b]) → w.grownBy w' (some g) → (g' = g ∨ w.heap.size ≤ g') → wpList Tryd.prog ops Q rest (a.put o.dst (.slice (some ⟨g', 0, none⟩) (n + 1) cp')) w') : wpList Tryd.prog ops Q (o :: rest) a w := by
  subst hn
  obtain ⟨g', cp', w', h1, h2, h3, h4⟩ := hR.push hl ad c b hu o.type
  exact Lib.wpList_append_run w hgd s x 36 36 ho _ _ hs hx _ w' h1 (h g' cp' w' h2 h3 h4)
theorem below_grown {w wr w2 : World} {x : Nat} (h : Below w.heap.size w wr) (hg : wr.grownBy w2 (some x)) (hx : w.heap.size ≤ x) : Below w.heap.size w w2 :=
  h.grown hg h.size (fun k e => by injection e with e; omega)
def keyB (n : Nat) (j : Nat) : UInt8 := UInt8.ofNat (n / 2 ^ (56 - 8 * j))
theorem keyB_val (n j : Nat) : (n : Int) / 2 ^ (56 - 8 * j) % 256 = ((keyB n j).toNat : Int) := by
  unfold keyB
  rw [UInt8.toNat_ofNat']
  simp
def keyL (l : List UInt8) (n : Nat) (j : Nat) : List UInt8 := l ++ [0] ++ (List.range j).map (keyB n)
set_option maxRecDepth 100000 in
set_option maxHeartbeats 2000000 in
theorem key22 (s : ByteArray) (n : Nat) (hn : n < 18446744073709551616) (w : World) (hs : s.size ≤ 140737488351200) :
    Calls Tryd.prog 22 #[.string s, .int .u64 n] w fun e w' => e = .returned (.string ⟨(keyL s.data.toList n 8).toArray⟩) ∧ Below w.heap.size w w' := by
  obtain ⟨cp, hconv, hR⟩ := conv w s (by omega)
  have hb0 : Below w.heap.size w (w.drew.alloc (.cells (bytesRow s cp) 5 ((bytesRow s cp).size, (bytesRow s cp).size + 1))) := (Below.refl _ w).drew.alloc (Nat.le_refl _) _
  have hz : s.data.toList.length = s.size := Array.length_toList
  generalize w.drew.alloc (.cells (bytesRow s cp) 5 ((bytesRow s cp).size, (bytesRow s cp).size + 1)) = w1 at *
  generalize hl : s.data.toList = l at *
  go_enter Tryd.func22, Tryd.ntmps22
  go_wp2_with (at_builtin; refine wp_push _ rfl (.tmp 8) (.tmp 9) rfl hz.symm rfl _ _ rfl (hR.below ((Below.refl _ _).alloc (Nat.le_refl _) _)) (by omega) 0 (by go_simp) ?_; intro g2 cp2 w2 hR2 hg2 hw2)
  have hB2 : Below w.heap.size w w2 := below_grown (hb0.alloc hb0.size _) hg2 (Nat.le_refl _)
  have hgle : w.heap.size ≤ g2 := by
    rcases hw2 with e | e
    · omega
    · simp at e; have := hb0.size; omega
  have hR3 : Row w2 g2 cp2 (keyL l n 0) := by simpa [keyL] using hR2
  clear hw2 hg2 hR2 hconv hR hb0
  go_loopw [6, 5] (fun v u wr => ∃ j g cp : Nat, j ≤ 8 ∧ v = .int .i64 (56 - 8 * (j : Int)) ∧ u = .slice (some ⟨g, 0, none⟩) (s.size + 1 + j) cp ∧ w.heap.size ≤ g ∧ Row wr g cp (keyL l n j) ∧ Below w.heap.size w wr) (fun v _ _ => (intOf v + 8).toNat)
  case atStart => exact ⟨0, g2, cp2, Nat.zero_le _, by simp, rfl, hgle, hR3, hB2⟩
  case round =>
    clear hR3 hB2 hgle
    obtain ⟨j, g, cp, hj, rfl, rfl, hg, hR, hB⟩ := hrel
    have hlen : s.size + 1 + j = (keyL l n j).length := by simp [keyL]; omega
    by_cases hlt : j < 8
    · have q1 : (0 : Int) ≤ 56 - 8 * (j : Int) := by omega
      have q2 : ¬ (56 - 8 * (j : Int)) < 0 := by omega
      have HV := Aside0.mk (keyB_val n j)
      go_wp2_with (at_builtin; refine wp_push _ rfl (.tmp 15) (.tmp 20) rfl hlen rfl _ _ rfl (hR.below ((Below.refl _ _).alloc (Nat.le_refl _) _)) (by rw [← hlen]; omega) (keyB n j) (by go_simp; exact HV.out) ?_; intro g2 cp2 w2 hR2 hg2 hw2)
      have hB2 : Below w.heap.size w w2 := below_grown (hB.alloc hB.size _) hg2 hg
      have hgle : w.heap.size ≤ g2 := by
        rcases hw2 with e | e
        · omega
        · simp at e; have := hB.size; omega
      have hR3 : Row w2 g2 cp2 (keyL l n (j + 1)) := by
        have e : keyL l n (j + 1) = keyL l n j ++ [keyB n j] := by simp [keyL, List.range_succ]
        rw [e]; exact hR2
      clear hR2 hw2 hg2
      go_roundw
      case rel => exact ⟨j + 1, g2, cp2, by omega, by congr 1; omega, by congr 1; omega, hgle, hR3, hB2⟩
      case measure => simp [intOf]; omega
    · have h8 : Aside0 (j = 8) := ⟨by omega⟩
      have hba := hR.back
      have q1 : 56 - 8 * (j : Int) < 0 := by omega
      have q2 : ¬ (0 : Int) ≤ 56 - 8 * (j : Int) := by omega
      clear hlt hj
      go_wp2
      go_ret
      exact ⟨by rw [h8.out]; rfl, hB⟩
set_option maxRecDepth 100000 in
set_option maxHeartbeats 2000000 in
theorem key25 (s : ByteArray) (n : Nat) (hn : n < 18446744073709551616) (w : World) (hs : s.size ≤ 140737488351200) :
    Calls Tryd.prog 25 #[.string s, .int .u64 n] w fun e w' => e = .returned (.string ⟨(keyL s.data.toList n 8).toArray⟩) ∧ Below w.heap.size w w' := by
  obtain ⟨cp, hconv, hR⟩ := conv w s (by omega)
  have hb0 : Below w.heap.size w (w.drew.alloc (.cells (bytesRow s cp) 5 ((bytesRow s cp).size, (bytesRow s cp).size + 1))) := (Below.refl _ w).drew.alloc (Nat.le_refl _) _
  have hz : s.data.toList.length = s.size := Array.length_toList
  generalize w.drew.alloc (.cells (bytesRow s cp) 5 ((bytesRow s cp).size, (bytesRow s cp).size + 1)) = w1 at *
  generalize hl : s.data.toList = l at *
  go_enter Tryd.func25, Tryd.ntmps25
  go_wp2_with (at_builtin; refine wp_push _ rfl (.tmp 8) (.tmp 9) rfl hz.symm rfl _ _ rfl (hR.below ((Below.refl _ _).alloc (Nat.le_refl _) _)) (by omega) 0 (by go_simp) ?_; intro g2 cp2 w2 hR2 hg2 hw2)
  have hB2 : Below w.heap.size w w2 := below_grown (hb0.alloc hb0.size _) hg2 (Nat.le_refl _)
  have hgle : w.heap.size ≤ g2 := by
    rcases hw2 with e | e
    · omega
    · simp at e; have := hb0.size; omega
  have hR3 : Row w2 g2 cp2 (keyL l n 0) := by simpa [keyL] using hR2
  clear hw2 hg2 hR2 hconv hR hb0
  go_loopw [6, 5] (fun v u wr => ∃ j g cp : Nat, j ≤ 8 ∧ v = .int .i64 (7 - (j : Int)) ∧ u = .slice (some ⟨g, 0, none⟩) (s.size + 1 + j) cp ∧ w.heap.size ≤ g ∧ Row wr g cp (keyL l n j) ∧ Below w.heap.size w wr) (fun v _ _ => (intOf v + 1).toNat)
  case atStart => exact ⟨0, g2, cp2, Nat.zero_le _, by simp, rfl, hgle, hR3, hB2⟩
  case round =>
    clear hR3 hB2 hgle
    obtain ⟨j, g, cp, hj, rfl, rfl, hg, hR, hB⟩ := hrel
    have hlen : s.size + 1 + j = (keyL l n j).length := by simp [keyL]; omega
    by_cases hlt : j < 8
    · have q1 : (0 : Int) ≤ 7 - (j : Int) := by omega
      have q2 : ¬ (7 - (j : Int)) < 0 := by omega
      have HV := Aside0.mk (show (n : Int) / 2 ^ (8 * (7 - j)) % 256 = ((keyB n j).toNat : Int) by rw [show 8 * (7 - j) = 56 - 8 * j by omega]; exact keyB_val n j)
      go_wp2_with (at_builtin; refine wp_push _ rfl (.tmp 15) (.tmp 22) rfl hlen rfl _ _ rfl (hR.below ((Below.refl _ _).alloc (Nat.le_refl _) _)) (by rw [← hlen]; omega) (keyB n j) (by go_simp; exact HV.out) ?_; intro g2 cp2 w2 hR2 hg2 hw2)
      have hB2 : Below w.heap.size w w2 := below_grown (hB.alloc hB.size _) hg2 hg
      have hgle : w.heap.size ≤ g2 := by
        rcases hw2 with e | e
        · omega
        · simp at e; have := hB.size; omega
      have hR3 : Row w2 g2 cp2 (keyL l n (j + 1)) := by
        have e : keyL l n (j + 1) = keyL l n j ++ [keyB n j] := by simp [keyL, List.range_succ]
        rw [e]; exact hR2
      clear hR2 hw2 hg2
      go_roundw
      case rel => exact ⟨j + 1, g2, cp2, by omega, by congr 1; omega, by congr 1; omega, hgle, hR3, hB2⟩
      case measure => simp [intOf]; omega
    · have h8 : Aside0 (j = 8) := ⟨by omega⟩
      have hba := hR.back
      have q1 : 7 - (j : Int) < 0 := by omega
      have q2 : ¬ (0 : Int) ≤ 7 - (j : Int) := by omega
      clear hlt hj
      go_wp2
      go_ret
      exact ⟨by rw [h8.out]; rfl, hB⟩
def name_Key.f (a0 : ByteArray) (a1 : Int) : Option ByteArray := if a0.size ≤ 140737488351200 ∧ 0 ≤ a1 ∧ a1 < 18446744073709551616 then some ⟨(keyL a0.data.toList a1.toNat 8).toArray⟩ else none
theorem name_Key.calls (a0 : ByteArray) (a1 : Int) (r : ByteArray) (w : World) (h : name_Key.f a0 a1 = some r) :
    Calls Tryd.prog 22 #[.string a0, .int .u64 a1] w fun e w' => e = .returned (.string r) ∧ Below w.heap.size w w' := by
  unfold name_Key.f at h
  split at h
  · rename_i hc
    cases h
    obtain ⟨n, rfl⟩ := Int.eq_ofNat_of_zero_le hc.2.1
    exact key22 a0 n (by omega) w hc.1
  · cases h
def flintref2_Key.f (a0 : ByteArray) (a1 : Int) : Option ByteArray := if a0.size ≤ 140737488351200 ∧ 0 ≤ a1 ∧ a1 < 18446744073709551616 then some ⟨(keyL a0.data.toList a1.toNat 8).toArray⟩ else none
theorem flintref2_Key.calls (a0 : ByteArray) (a1 : Int) (r : ByteArray) (w : World) (h : flintref2_Key.f a0 a1 = some r) :
    Calls Tryd.prog 25 #[.string a0, .int .u64 a1] w fun e w' => e = .returned (.string r) ∧ Below w.heap.size w w' := by
  unfold flintref2_Key.f at h
  split at h
  · rename_i hc
    cases h
    obtain ⟨n, rfl⟩ := Int.eq_ofNat_of_zero_le hc.2.1
    exact key25 a0 n (by omega) w hc.1
  · cases h
end Go.Proofs.YtacdiamflgcnbaaDoor.Nm
