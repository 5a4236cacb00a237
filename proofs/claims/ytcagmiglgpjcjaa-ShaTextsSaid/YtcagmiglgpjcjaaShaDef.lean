/-
  SHA-256 in plain functions: rotations, the schedule, the rounds, a block.
-/
import Derived.Test.YtcagmiglgpjcjaaShaRow
import Derived.Test.YtcagmiglgpjcjaaPSax2
set_option linter.unusedVariables false
set_option linter.unusedSimpArgs false
namespace Go.Proofs.Ytcagmiglgpjcjaa.Sh
open Go.RowKit Go.Proofs.YtcagmiglgpjcjaaW.PrintWords Go.Proofs.YtcagmiglgpjcjaaW.PrintLast Go.Proofs.YtcagmiglgpjcjaaW.PrintMore Go.Proofs.Ytcagmiglgpjcjaa.PSa

/-- Turned right by n. -/
def rr (n x : Int) : Int := Go.bits .or .u32 (shr .u32 x n) (shl .u32 x (32 - n))
theorem bits_or_comm (k : IntKind) (x y : Int) : Go.bits .or k x y = Go.bits .or k y x := by
  simp only [Go.bits]
  rw [BitVec.or_comm]
theorem turned_rr (n x : Int) (h : n ∈ [7, 18, 17, 19, 6, 11, 25, 2, 13, 22]) : flintref15_turned.f x n = some (rr n x) := by
  simp only [List.mem_cons, List.not_mem_nil, or_false] at h
  rcases h with rfl | rfl | rfl | rfl | rfl | rfl | rfl | rfl | rfl | rfl <;> exact (if_pos (by decide)).trans ((if_pos (by decide)).trans rfl)
theorem rot_rr (n x : Int) (h : n ∈ [7, 18, 17, 19, 6, 11, 25, 2, 13, 22]) : bits_RotateLeft32.f x (-n) = some (rr n x) := by
  simp only [List.mem_cons, List.not_mem_nil, or_false] at h
  unfold rr
  rw [bits_or_comm]
  rcases h with rfl | rfl | rfl | rfl | rfl | rfl | rfl | rfl | rfl | rfl <;> exact (if_pos (by decide)).trans ((if_pos (by decide)).trans rfl)
theorem turn28 (n x : Int) (h : n ∈ [7, 18, 17, 19, 6, 11, 25, 2, 13, 22]) (w : World) : Calls Try.prog 28 #[.int .u32 x, .int .u64 n] w fun e w' => e = .returned (.int .u32 (rr n x)) ∧ Drawn0 w w' :=
  flintref15_turned.calls x n _ w (turned_rr n x h)
theorem rot31 (n x : Int) (h : n ∈ [7, 18, 17, 19, 6, 11, 25, 2, 13, 22]) (w : World) : Calls Try.prog 31 #[.int .u32 x, .int .i64 (-n)] w fun e w' => e = .returned (.int .u32 (rr n x)) ∧ Drawn0 w w' :=
  bits_RotateLeft32.calls x (-n) _ w (rot_rr n x h)

/-- Word i of a list. -/
def at32 (l : List Int) (i : Nat) : Int := l.getD i 0
theorem at32_cell {w : World} {b : Nat} {t : TypeId} {l : List Int} (h : w.heap[b]? = some (.cells (u32s l) t (0, 0))) {i : Nat} (hi : i < l.length) : w.cell? ⟨b, i, none⟩ = some (.int .u32 (at32 l i)) := by
  rw [cell_of_row w b i _ t (0, 0) h, u32s_get, at32]
  simp [hi]
def z8 : List Int := List.replicate 8 0
def z64 : List Int := List.replicate 64 0
theorem zero49 : (∀ w, (zeroValue 49).run Try.prog w = .ok (.agg (u32s z8)) w) ∧ (Try.prog.info? 49).map (·.size) = some 8 := zero_of_info (by kernel_rfl)
theorem zero50 : (∀ w, (zeroValue 50).run Try.prog w = .ok (.agg (u32s z64)) w) ∧ (Try.prog.info? 50).map (·.size) = some 64 := zero_of_info (by kernel_rfl)
abbrev KB := Kd.int .u8
def wd (x0 x1 x2 x3 : Int) : Int := bits .or .u32 (bits .or .u32 (bits .or .u32 (IntKind.u32.wrap (IntKind.u32.wrap x0 * 16777216)) (IntKind.u32.wrap (IntKind.u32.wrap x1 * 65536))) (IntKind.u32.wrap (IntKind.u32.wrap x2 * 256))) (IntKind.u32.wrap x3)
def sg0 (x : Int) : Int := bits .xor .u32 (bits .xor .u32 (rr 7 x) (rr 18 x)) (x / 8)
def sg1 (x : Int) : Int := bits .xor .u32 (bits .xor .u32 (rr 17 x) (rr 19 x)) (x / 1024)
def nx (x16 x15 x7 x2 : Int) : Int := IntKind.u32.wrap (IntKind.u32.wrap (IntKind.u32.wrap (x16 + sg0 x15) + x7) + sg1 x2)
/-- The round: the eight words anew. -/
def Sg1 (e : Int) : Int := bits .xor .u32 (bits .xor .u32 (rr 6 e) (rr 11 e)) (rr 25 e)
def Sg0 (a : Int) : Int := bits .xor .u32 (bits .xor .u32 (rr 2 a) (rr 13 a)) (rr 22 a)
def ch (x y z : Int) : Int := bits .xor .u32 (bits .and .u32 x y) (bits .and .u32 (bits .xor .u32 IntKind.u32.max x) z)
def mj (x y z : Int) : Int := bits .xor .u32 (bits .xor .u32 (bits .and .u32 x y) (bits .and .u32 x z)) (bits .and .u32 y z)
def oneV (v4 v5 v6 v7 k w : Int) : Int := v7 + Sg1 v4 + ch v4 v5 v6 + k + w
def twoV (v0 v1 v2 : Int) : Int := Sg0 v0 + mj v0 v1 v2
def rnd8 (v0 v1 v2 v3 v4 v5 v6 v7 k w : Int) : List Int := [(oneV v4 v5 v6 v7 k w + twoV v0 v1 v2) % 4294967296, v0, v1, v2, (v3 + oneV v4 v5 v6 v7 k w) % 4294967296, v4, v5, v6]
def rnd (v : List Int) (k w : Int) : List Int := rnd8 (at32 v 0) (at32 v 1) (at32 v 2) (at32 v 3) (at32 v 4) (at32 v 5) (at32 v 6) (at32 v 7) k w
theorem rnd_eq {v : List Int} {v0 v1 v2 v3 v4 v5 v6 v7 : Int} (k w : Int) (h : at32 v 0 = v0 ∧ at32 v 1 = v1 ∧ at32 v 2 = v2 ∧ at32 v 3 = v3 ∧ at32 v 4 = v4 ∧ at32 v 5 = v5 ∧ at32 v 6 = v6 ∧ at32 v 7 = v7) : rnd v k w = rnd8 v0 v1 v2 v3 v4 v5 v6 v7 k w := by
  obtain ⟨rfl, rfl, rfl, rfl, rfl, rfl, rfl, rfl⟩ := h
  rfl
/-- The sums of a block's end, one by one. -/
def As (h v : List Int) : Nat → List Int
  | 0 => h
  | k + 1 => (As h v k).set k (IntKind.u32.wrap (at32 (As h v k) k + at32 v k))
theorem As_length (h v : List Int) : ∀ k, (As h v k).length = h.length
  | 0 => rfl
  | k + 1 => by simp [As, As_length h v k]
def Vs (h K W : List Int) : Nat → List Int
  | 0 => h
  | i + 1 => rnd (Vs h K W i) (at32 K i) (at32 W i)
theorem Vs_length (h K W : List Int) (hh : h.length = 8) : ∀ i, (Vs h K W i).length = 8
  | 0 => hh
  | i + 1 => rfl
def word (m W : List Int) (i : Nat) : Int := if i < 16 then wd (rd m (4 * (i : Int))) (rd m (4 * (i : Int) + 1)) (rd m (4 * (i : Int) + 2)) (rd m (4 * (i : Int) + 3)) else nx (at32 W (i - 16)) (at32 W (i - 15)) (at32 W (i - 7)) (at32 W (i - 2))
def Ws (m : List Int) : Nat → List Int
  | 0 => z64
  | k + 1 => (Ws m k).set k (word m (Ws m k) k)
theorem Ws_length (m : List Int) : ∀ k, (Ws m k).length = 64
  | 0 => by simp [Ws, z64]
  | k + 1 => by simp [Ws, Ws_length m k]
/-- A block taken in. -/
def comp (h K m : List Int) : List Int := As h (Vs h K (Ws m 64) 64) 8
theorem below_setRow {B : Nat} {w wr : World} (h : Below B w wr) {g : Nat} (hg : B ≤ g) (cs : Array Value) : Below B w (wr.setRow g cs) :=
  ⟨h.os, h.tape, h.output, by simpa [World.setRow] using h.size, fun k hk => (setRow_other wr g k cs (by omega)).trans (h.block k hk)⟩
theorem quiet_drawn {P : Program} {f : FuncId} {args : Array Value} {w : World} {n : Nat} {v : Value}
    (h : ∀ W, Calls P f args W fun e w' => e = .returned v ∧ Drawn0 W w') : Calls P f args (w.drewN n) fun e w'' => e = .returned v ∧ ∃ m, w'' = w.drewN m :=
  (h _).mono fun _ _ ⟨he, ⟨m, hm⟩⟩ => ⟨he, n + m, by rw [hm, World.drewN_drewN]⟩
end Go.Proofs.Ytcagmiglgpjcjaa.Sh
