/-
  The law NameUnlike.
-/
import Derived.Test.YtacdiamflgcnbaaDoorPNax2
import Derived.Test.YtacdiamflgcnbaaDoorNmQd
set_option linter.unusedVariables false
set_option linter.unusedSimpArgs false
namespace Go.Proofs.YtacdiamflgcnbaaDoor.Nm
open Go.RowKit Go.Proofs.YtacdiamflgcnbaaDoorW.PrintWords Go.Proofs.YtacdiamflgcnbaaDoorW.PrintLast Go.Proofs.YtacdiamflgcnbaaDoorW.PrintMore Go.Proofs.YtacdiamflgcnbaaDoor.PNa
theorem known61 : flintlaw2_known.f 60 = some true := by decide +kernel
theorem keyB_toNat (n j : Nat) : (keyB n j).toNat = n / 2 ^ (56 - 8 * j) % 256 := by unfold keyB; rw [UInt8.toNat_ofNat']
theorem key_inj {l k : List UInt8} {m n : Nat} (hm : m < 18446744073709551616) (hn : n < 18446744073709551616) (h : keyL l m 8 = keyL k n 8) : l = k ∧ m = n := by
  unfold keyL at h
  rw [List.append_assoc, List.append_assoc] at h
  have hlen : l.length = k.length := by
    have := congrArg List.length h
    simp at this
    omega
  obtain ⟨h1, h2⟩ := List.append_inj h hlen
  refine ⟨h1, ?_⟩
  have h3 : ∀ j, j < 8 → m / 2 ^ (56 - 8 * j) % 256 = n / 2 ^ (56 - 8 * j) % 256 := by
    intro j hj
    have := congrArg (fun x => x[j + 1]?) h2
    simp [hj] at this
    rw [← keyB_toNat, ← keyB_toNat, this]
  have a0 := h3 0 (by omega); have a1 := h3 1 (by omega); have a2 := h3 2 (by omega); have a3 := h3 3 (by omega)
  have a4 := h3 4 (by omega); have a5 := h3 5 (by omega); have a6 := h3 6 (by omega); have a7 := h3 7 (by omega)
  simp only [Nat.reduceMul, Nat.reduceSub, Nat.reducePow, Nat.div_one] at a0 a1 a2 a3 a4 a5 a6 a7
  omega
theorem beq_toL {x y : ByteArray} {p : Prop} [Decidable p] (h : x = y ↔ p) : (x.toList == y.toList) = decide p := by
  rw [ByteArray.toList_eq, ByteArray.toList_eq]
  by_cases e : x = y
  · have := h.1 e; subst e; simp [this]
  · have hp : ¬ p := fun q => e (h.2 q)
    have : x.data.toList ≠ y.data.toList := fun q => e (WideShapes.bytes_inj q)
    rw [beq_eq_false_iff_ne.mpr this]; simp [hp]
theorem mk_toL (l : List UInt8) : (⟨l.toArray⟩ : ByteArray).data.toList = l := rfl
theorem quote_iff (a b : ByteArray) : (⟨(quoteL a).toArray⟩ : ByteArray) = ⟨(quoteL b).toArray⟩ ↔ a = b := by
  constructor
  · intro h
    have := congrArg (fun x : ByteArray => x.data.toList) h
    exact quote_inj this
  · rintro rfl; rfl
theorem key_iff (a b : ByteArray) (m n : Nat) (hm : m < 18446744073709551616) (hn : n < 18446744073709551616) : (⟨(keyL a.data.toList m 8).toArray⟩ : ByteArray) = ⟨(keyL b.data.toList n 8).toArray⟩ ↔ a = b ∧ m = n := by
  constructor
  · intro h
    have := congrArg (fun x : ByteArray => x.data.toList) h
    obtain ⟨h1, h2⟩ := key_inj hm hn this
    exact ⟨WideShapes.bytes_inj h1, h2⟩
  · rintro ⟨rfl, rfl⟩; rfl
set_option maxRecDepth 1000000 in
set_option maxHeartbeats 8000000 in
theorem unlike6 (a b : ByteArray) (m' n' : Int) (w : World) (ha : a.size ≤ 140737488351232) (hb : b.size ≤ 140737488351232) (hm : (Lit.int .u64 m').wf = true) (hn : (Lit.int .u64 n').wf = true) (hT : Aside0 (Tabs w)) :
    Calls Tryd.prog 6 #[.string a, .string b, .int .u64 m', .int .u64 n'] w fun e w' => e = .returned (.bool true) ∧ Below w.heap.size w w' := by
  have hm1 : 0 ≤ m' ∧ m' < 18446744073709551616 := by
    have h2 : IntKind.u64.min = 0 := rfl
    have h3 : IntKind.u64.max = 18446744073709551615 := rfl
    simp [Lit.wf, h2, h3] at hm; omega
  have hn1 : 0 ≤ n' ∧ n' < 18446744073709551616 := by
    have h2 : IntKind.u64.min = 0 := rfl
    have h3 : IntKind.u64.max = 18446744073709551615 := rfl
    simp [Lit.wf, h2, h3] at hn; omega
  obtain ⟨m, rfl⟩ := Int.eq_ofNat_of_zero_le hm1.1
  obtain ⟨n, rfl⟩ := Int.eq_ofNat_of_zero_le hn1.1
  have HK := Aside0.mk (flintlaw2_known.calls 60 true w known61 hT)
  clear hT hm hn
  go_enter Tryd.func6, Tryd.ntmps6
  by_cases hbig : (a.size : Int) > 32768
  · go_wp2_with (go_at_call 10; refine HK.out.mono ?_; rintro e w1 ⟨rfl, hb1⟩)
    go_ret
    exact ⟨rfl, hb1⟩
  · by_cases hbig2 : (b.size : Int) > 32768
    · go_wp2_with (go_at_call 10; refine HK.out.mono ?_; rintro e w1 ⟨rfl, hb1⟩)
      go_ret
      exact ⟨rfl, hb1⟩
    · have HQ1 := Aside0.mk (fun W => quote21 a W (by omega))
      have HQ2 := Aside0.mk (fun W => quote21 b W (by omega))
      have HK1 := Aside0.mk (fun W => key22 a m (by omega) W (by omega))
      have HK2 := Aside0.mk (fun W => key22 b n (by omega) W (by omega))
      have e1 : ((⟨(quoteL a).toArray⟩ : ByteArray).toList == (⟨(quoteL b).toArray⟩ : ByteArray).toList) = decide (a = b) := beq_toL (quote_iff a b)
      have e2 : ((⟨(keyL a.data.toList m 8).toArray⟩ : ByteArray).toList == (⟨(keyL b.data.toList n 8).toArray⟩ : ByteArray).toList) = decide (a = b ∧ m = n) := beq_toL (key_iff a b m n (by omega) (by omega))
      have e3 : (a.toList == b.toList) = decide (a = b) := beq_toL Iff.rfl
      generalize (⟨(quoteL a).toArray⟩ : ByteArray) = qa at *
      generalize (⟨(quoteL b).toArray⟩ : ByteArray) = qb at *
      generalize (⟨(keyL a.data.toList m 8).toArray⟩ : ByteArray) = ka at *
      generalize (⟨(keyL b.data.toList n 8).toArray⟩ : ByteArray) = kb at *
      by_cases hab : a = b
      · have q3 : (a.toList == b.toList) = true := by rw [e3]; simp [hab]
        have q1 : (qa.toList == qb.toList) = true := by rw [e1]; simp [hab]
        by_cases hmn : m = n
        · have q2 : (ka.toList == kb.toList) = true := by rw [e2]; simp [hab, hmn]
          have q4 : (((m : Nat) : Int) == ((n : Nat) : Int)) = true := by simp [hmn]
          clear e1 e2 e3 hab hmn ha hb hm1 hn1
          go_wp2_with (first
            | (go_at_call 10; refine HK.out.mono ?_; rintro e w1 ⟨rfl, hb1⟩)
            | (go_at_call 21; refine (HQ1.out _).mono ?_; rintro e w2 ⟨rfl, hb2⟩; clear HQ1)
            | (go_at_call 21; refine (HQ2.out _).mono ?_; rintro e w3 ⟨rfl, hb3⟩; clear HQ2)
            | (go_at_call 22; refine (HK1.out _).mono ?_; rintro e w4 ⟨rfl, hb4⟩; clear HK1)
            | (go_at_call 22; refine (HK2.out _).mono ?_; rintro e w5 ⟨rfl, hb5⟩; clear HK2))
          go_ret
          exact ⟨rfl, (((hb1.trans (hb2.mono hb1.size)).trans (hb3.mono (Nat.le_trans hb1.size hb2.size))).trans (hb4.mono (Nat.le_trans (Nat.le_trans hb1.size hb2.size) hb3.size))).trans (hb5.mono (Nat.le_trans (Nat.le_trans (Nat.le_trans hb1.size hb2.size) hb3.size) hb4.size))⟩
        · have q2 : (ka.toList == kb.toList) = false := by rw [e2]; simp [hab, hmn]
          have q4 : (((m : Nat) : Int) == ((n : Nat) : Int)) = false := beq_eq_false_iff_ne.mpr (by omega)
          clear e1 e2 e3 hab hmn ha hb hm1 hn1
          go_wp2_with (first
            | (go_at_call 10; refine HK.out.mono ?_; rintro e w1 ⟨rfl, hb1⟩)
            | (go_at_call 21; refine (HQ1.out _).mono ?_; rintro e w2 ⟨rfl, hb2⟩; clear HQ1)
            | (go_at_call 21; refine (HQ2.out _).mono ?_; rintro e w3 ⟨rfl, hb3⟩; clear HQ2)
            | (go_at_call 22; refine (HK1.out _).mono ?_; rintro e w4 ⟨rfl, hb4⟩; clear HK1)
            | (go_at_call 22; refine (HK2.out _).mono ?_; rintro e w5 ⟨rfl, hb5⟩; clear HK2))
          go_ret
          exact ⟨rfl, (((hb1.trans (hb2.mono hb1.size)).trans (hb3.mono (Nat.le_trans hb1.size hb2.size))).trans (hb4.mono (Nat.le_trans (Nat.le_trans hb1.size hb2.size) hb3.size))).trans (hb5.mono (Nat.le_trans (Nat.le_trans (Nat.le_trans hb1.size hb2.size) hb3.size) hb4.size))⟩
      · have q3 : (a.toList == b.toList) = false := by rw [e3]; simp [hab]
        have q1 : (qa.toList == qb.toList) = false := by rw [e1]; simp [hab]
        have q2 : (ka.toList == kb.toList) = false := by rw [e2]; simp [hab]
        clear e1 e2 e3 hab ha hb hm1 hn1
        go_wp2_with (first
          | (go_at_call 10; refine HK.out.mono ?_; rintro e w1 ⟨rfl, hb1⟩)
          | (go_at_call 21; refine (HQ1.out _).mono ?_; rintro e w2 ⟨rfl, hb2⟩; clear HQ1)
          | (go_at_call 21; refine (HQ2.out _).mono ?_; rintro e w3 ⟨rfl, hb3⟩; clear HQ2)
          | (go_at_call 22; refine (HK1.out _).mono ?_; rintro e w4 ⟨rfl, hb4⟩; clear HK1)
          | (go_at_call 22; refine (HK2.out _).mono ?_; rintro e w5 ⟨rfl, hb5⟩; clear HK2))
        go_ret
        exact ⟨rfl, (((hb1.trans (hb2.mono hb1.size)).trans (hb3.mono (Nat.le_trans hb1.size hb2.size))).trans (hb4.mono (Nat.le_trans (Nat.le_trans hb1.size hb2.size) hb3.size))).trans (hb5.mono (Nat.le_trans (Nat.le_trans (Nat.le_trans hb1.size hb2.size) hb3.size) hb4.size))⟩
end Go.Proofs.YtacdiamflgcnbaaDoor.Nm
