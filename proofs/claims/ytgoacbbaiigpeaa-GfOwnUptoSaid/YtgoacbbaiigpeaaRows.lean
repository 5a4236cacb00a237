/-
  No cell of these rows narrows 'for every input' (looked for: loops, veiled, ifaces, maps, wideKeys, modest, calm, conditions, laid).
  DERIVED. THE GIVEN ROWS OF THIS SEAT. 8 by the template 'for every input the law returns true; each argument reads behind the call as it read before'; 0 by the template 'total and deterministic' (their statements: YtgoacbbaiigpeaaTotals.lean).
  GIVEN WITH THE SEED: the statements are not yours to turn. If you find one false, say at which input.
  Laid BY PROGRAM, IN A SANDBOX (cutbox-rows.mjs): the forced cells as the released guide's own fill.sh prints them over the translation 8c8fb6a51a0f28db… (all of the seat's roots in one cut). By AI agents, Wed Nov 11 2026. No macro, syntax, notation, axiom, sorry.
-/
import Derived.Test.YtgoacbbaiigpeaaChecked
import GoSem.Claim
import GoSem.ClaimJoined
import GoSem.ClaimMapViews
import Derived.JoinedTies
import Derived.KernelRfl
namespace Go.Proofs.Ytgoacbbaiigpeaa
/- THE CELL 'sum', in the pinned program and in every row, IS THE sha256 OF THE DUMP (.gsa) THAT YtgoacbbaiigpeaaProg.lean LOADS. Nothing in Lean hashes anything: it is a label: what it is worth is what the hold of that sum in a sandbox is worth. -/
noncomputable def Try.pinned : Pinned := { name := "ytgoacbbaiigpeaa", sum := "8c8fb6a51a0f28db5f30a6c782689c0ea71d55360d4649f5b148e19e022cc53d", checked := Try.checked }
namespace Rows
def none {H : Type} : Left H := { results := [], args := [] }

/-- 'flintlaw5.GfPowers': WHATEVER THE INPUT: true; the input reads as it did. -/
def gfPowersSpec : ChangeSpec := { name := "gfPowers", fn := fun _ => fun
  | [d1, d2, d3] => { results := [.lit (.bool true)], args := [d1, d2, d3] }
  | _ => none }
def gfPowersRow : OpenClaim := { program := "ytgoacbbaiigpeaa", sum := "8c8fb6a51a0f28db5f30a6c782689c0ea71d55360d4649f5b148e19e022cc53d", func := "flint/flintlaw5.GfPowers", spec := "gfPowers", unfollowed := true, recurses := true, apart := false }
def GfPowersSaid : Prop := gfPowersRow.holds Try.pinned (OpenSpec.ofChange gfPowersSpec)

/-- ITS FALSE NEIGHBOUR: 'it returns false'. Refute it at one input. -/
def gfPowersWrong : ChangeSpec := { name := "gfPowers", fn := fun _ => fun
  | [d1, d2, d3] => { results := [.lit (.bool false)], args := [d1, d2, d3] }
  | _ => none }
def GfPowersWrongFalsely : Prop := gfPowersRow.holds Try.pinned (OpenSpec.ofChange gfPowersWrong)

/-- 'flintlaw5.GfReckons': WHATEVER THE INPUT: true; the input reads as it did. -/
def gfReckonsSpec : ChangeSpec := { name := "gfReckons", fn := fun _ => fun
  | [d1, d2, d3] => { results := [.lit (.bool true)], args := [d1, d2, d3] }
  | _ => none }
def gfReckonsRow : OpenClaim := { program := "ytgoacbbaiigpeaa", sum := "8c8fb6a51a0f28db5f30a6c782689c0ea71d55360d4649f5b148e19e022cc53d", func := "flint/flintlaw5.GfReckons", spec := "gfReckons", unfollowed := true, recurses := true, apart := false }
def GfReckonsSaid : Prop := gfReckonsRow.holds Try.pinned (OpenSpec.ofChange gfReckonsSpec)

/-- ITS FALSE NEIGHBOUR: 'it returns false'. Refute it at one input. -/
def gfReckonsWrong : ChangeSpec := { name := "gfReckons", fn := fun _ => fun
  | [d1, d2, d3] => { results := [.lit (.bool false)], args := [d1, d2, d3] }
  | _ => none }
def GfReckonsWrongFalsely : Prop := gfReckonsRow.holds Try.pinned (OpenSpec.ofChange gfReckonsWrong)

/-- 'flintlaw5.GfLaws': WHATEVER THE INPUT: true; the input reads as it did. -/
def gfLawsSpec : ChangeSpec := { name := "gfLaws", fn := fun _ => fun
  | [d1, d2, d3] => { results := [.lit (.bool true)], args := [d1, d2, d3] }
  | _ => none }
def gfLawsRow : OpenClaim := { program := "ytgoacbbaiigpeaa", sum := "8c8fb6a51a0f28db5f30a6c782689c0ea71d55360d4649f5b148e19e022cc53d", func := "flint/flintlaw5.GfLaws", spec := "gfLaws", unfollowed := true, recurses := true, apart := false }
def GfLawsSaid : Prop := gfLawsRow.holds Try.pinned (OpenSpec.ofChange gfLawsSpec)

/-- ITS FALSE NEIGHBOUR: 'it returns false'. Refute it at one input. -/
def gfLawsWrong : ChangeSpec := { name := "gfLaws", fn := fun _ => fun
  | [d1, d2, d3] => { results := [.lit (.bool false)], args := [d1, d2, d3] }
  | _ => none }
def GfLawsWrongFalsely : Prop := gfLawsRow.holds Try.pinned (OpenSpec.ofChange gfLawsWrong)

/-- 'flintlaw5.GfMakes': WHATEVER THE INPUT: true; the input reads as it did. -/
def gfMakesSpec : ChangeSpec := { name := "gfMakes", fn := fun _ => fun
  | [d1, d2, d3] => { results := [.lit (.bool true)], args := [d1, d2, d3] }
  | _ => none }
def gfMakesRow : OpenClaim := { program := "ytgoacbbaiigpeaa", sum := "8c8fb6a51a0f28db5f30a6c782689c0ea71d55360d4649f5b148e19e022cc53d", func := "flint/flintlaw5.GfMakes", spec := "gfMakes", unfollowed := true, recurses := true, apart := false }
def GfMakesSaid : Prop := gfMakesRow.holds Try.pinned (OpenSpec.ofChange gfMakesSpec)

/-- ITS FALSE NEIGHBOUR: 'it returns false'. Refute it at one input. -/
def gfMakesWrong : ChangeSpec := { name := "gfMakes", fn := fun _ => fun
  | [d1, d2, d3] => { results := [.lit (.bool false)], args := [d1, d2, d3] }
  | _ => none }
def GfMakesWrongFalsely : Prop := gfMakesRow.holds Try.pinned (OpenSpec.ofChange gfMakesWrong)

/-- 'flintlaw5.GfInverts': WHATEVER THE INPUT: true; the input reads as it did. -/
def gfInvertsSpec : ChangeSpec := { name := "gfInverts", fn := fun _ => fun
  | [d1, d2, d3] => { results := [.lit (.bool true)], args := [d1, d2, d3] }
  | _ => none }
def gfInvertsRow : OpenClaim := { program := "ytgoacbbaiigpeaa", sum := "8c8fb6a51a0f28db5f30a6c782689c0ea71d55360d4649f5b148e19e022cc53d", func := "flint/flintlaw5.GfInverts", spec := "gfInverts", unfollowed := true, recurses := true, apart := false }
def GfInvertsSaid : Prop := gfInvertsRow.holds Try.pinned (OpenSpec.ofChange gfInvertsSpec)

/-- ITS FALSE NEIGHBOUR: 'it returns false'. Refute it at one input. -/
def gfInvertsWrong : ChangeSpec := { name := "gfInverts", fn := fun _ => fun
  | [d1, d2, d3] => { results := [.lit (.bool false)], args := [d1, d2, d3] }
  | _ => none }
def GfInvertsWrongFalsely : Prop := gfInvertsRow.holds Try.pinned (OpenSpec.ofChange gfInvertsWrong)

/-- 'flintlaw5.GfOwn': WHATEVER THE INPUT: true; the input reads as it did. -/
def gfOwnSpec : ChangeSpec := { name := "gfOwn", fn := fun _ => fun
  | [d1, d2] => { results := [.lit (.bool true)], args := [d1, d2] }
  | _ => none }
def gfOwnRow : OpenClaim := { program := "ytgoacbbaiigpeaa", sum := "8c8fb6a51a0f28db5f30a6c782689c0ea71d55360d4649f5b148e19e022cc53d", func := "flint/flintlaw5.GfOwn", spec := "gfOwn", unfollowed := true, recurses := true, apart := false }
def GfOwnSaid : Prop := gfOwnRow.holds Try.pinned (OpenSpec.ofChange gfOwnSpec)

/-- ITS FALSE NEIGHBOUR: 'it returns false'. Refute it at one input. -/
def gfOwnWrong : ChangeSpec := { name := "gfOwn", fn := fun _ => fun
  | [d1, d2] => { results := [.lit (.bool false)], args := [d1, d2] }
  | _ => none }
def GfOwnWrongFalsely : Prop := gfOwnRow.holds Try.pinned (OpenSpec.ofChange gfOwnWrong)

/-- 'flintlaw5.GfSolves': WHATEVER THE INPUT: true; the input reads as it did. -/
def gfSolvesSpec : ChangeSpec := { name := "gfSolves", fn := fun _ => fun
  | [d1, d2] => { results := [.lit (.bool true)], args := [d1, d2] }
  | _ => none }
def gfSolvesRow : OpenClaim := { program := "ytgoacbbaiigpeaa", sum := "8c8fb6a51a0f28db5f30a6c782689c0ea71d55360d4649f5b148e19e022cc53d", func := "flint/flintlaw5.GfSolves", spec := "gfSolves", unfollowed := true, recurses := true, apart := false }
def GfSolvesSaid : Prop := gfSolvesRow.holds Try.pinned (OpenSpec.ofChange gfSolvesSpec)

/-- ITS FALSE NEIGHBOUR: 'it returns false'. Refute it at one input. -/
def gfSolvesWrong : ChangeSpec := { name := "gfSolves", fn := fun _ => fun
  | [d1, d2] => { results := [.lit (.bool false)], args := [d1, d2] }
  | _ => none }
def GfSolvesWrongFalsely : Prop := gfSolvesRow.holds Try.pinned (OpenSpec.ofChange gfSolvesWrong)

/-- 'flintlaw5.GfMatrices': WHATEVER THE INPUT: true; the input reads as it did. -/
def gfMatricesSpec : ChangeSpec := { name := "gfMatrices", fn := fun _ => fun
  | [d1, d2, d3, d4] => { results := [.lit (.bool true)], args := [d1, d2, d3, d4] }
  | _ => none }
def gfMatricesRow : OpenClaim := { program := "ytgoacbbaiigpeaa", sum := "8c8fb6a51a0f28db5f30a6c782689c0ea71d55360d4649f5b148e19e022cc53d", func := "flint/flintlaw5.GfMatrices", spec := "gfMatrices", unfollowed := true, recurses := true, apart := false }
def GfMatricesSaid : Prop := gfMatricesRow.holds Try.pinned (OpenSpec.ofChange gfMatricesSpec)

/-- ITS FALSE NEIGHBOUR: 'it returns false'. Refute it at one input. -/
def gfMatricesWrong : ChangeSpec := { name := "gfMatrices", fn := fun _ => fun
  | [d1, d2, d3, d4] => { results := [.lit (.bool false)], args := [d1, d2, d3, d4] }
  | _ => none }
def GfMatricesWrongFalsely : Prop := gfMatricesRow.holds Try.pinned (OpenSpec.ofChange gfMatricesWrong)

/- THE SECOND FORM. 'bulk': how many values and letters a reading holds, each counted each time it is reached (what is shared counts as often as it is met; a slice's spare places count too). A statement '..UptoSaid' is the law's where the arguments, and the package variables that the reading takes, are together of bulk at most 1048576: NARROWER than '..Said'. Prove '..Said' where nothing that the law and all that it calls make is longer than what came in: it says more and counts as full. Else prove '..UptoSaid'. A law counts once. -/
mutual
def uptoBulk {H : Type} : DataW H → Nat
  | .lit (.string bytes) => bytes.length + 1
  | .lit _ => 1
  | .nil => 1
  | .ptr d => uptoBulk d + 1
  | .slice elems spare => uptoBulkAll elems + uptoBulkAll spare + 1
  | .agg parts => uptoBulkAll parts + 1
  | .iface _ d => uptoBulk d + 1
  | .map entries => uptoBulkEntries entries + 1
  | .held _ => 1
def uptoBulkAll {H : Type} : List (DataW H) → Nat
  | [] => 0
  | d :: r => uptoBulk d + uptoBulkAll r
def uptoBulkEntries {H : Type} : List (Lit × DataW H) → Nat
  | [] => 0
  | x :: r => uptoBulkEntry x + uptoBulkEntries r
def uptoBulkEntry {H : Type} : Lit × DataW H → Nat
  | (.string bytes, d) => bytes.length + uptoBulk d + 1
  | (_, d) => uptoBulk d + 1
 end
def uptoSmall : (H : Type) → List (DataW H) → Bool := fun _ ds => decide (uptoBulkAll ds ≤ 1048576)
def OpenSpec.upto (s : _root_.Go.ChangeSpec) : _root_.Go.OpenSpec := { _root_.Go.OpenSpec.ofChange s with cond := some uptoSmall }

/-- 'flintlaw5.GfPowers', WHERE WHAT IT READS IS OF BULK AT MOST 1048576: true; the input reads as it did. -/
def gfPowersUptoRow : OpenClaim := { program := "ytgoacbbaiigpeaa", sum := "8c8fb6a51a0f28db5f30a6c782689c0ea71d55360d4649f5b148e19e022cc53d", func := "flint/flintlaw5.GfPowers", spec := "gfPowers", unfollowed := true, recurses := true, apart := false, narrowed := true }
def GfPowersUptoSaid : Prop := gfPowersUptoRow.holds Try.pinned (OpenSpec.upto gfPowersSpec)

/-- 'flintlaw5.GfReckons', WHERE WHAT IT READS IS OF BULK AT MOST 1048576: true; the input reads as it did. -/
def gfReckonsUptoRow : OpenClaim := { program := "ytgoacbbaiigpeaa", sum := "8c8fb6a51a0f28db5f30a6c782689c0ea71d55360d4649f5b148e19e022cc53d", func := "flint/flintlaw5.GfReckons", spec := "gfReckons", unfollowed := true, recurses := true, apart := false, narrowed := true }
def GfReckonsUptoSaid : Prop := gfReckonsUptoRow.holds Try.pinned (OpenSpec.upto gfReckonsSpec)

/-- 'flintlaw5.GfLaws', WHERE WHAT IT READS IS OF BULK AT MOST 1048576: true; the input reads as it did. -/
def gfLawsUptoRow : OpenClaim := { program := "ytgoacbbaiigpeaa", sum := "8c8fb6a51a0f28db5f30a6c782689c0ea71d55360d4649f5b148e19e022cc53d", func := "flint/flintlaw5.GfLaws", spec := "gfLaws", unfollowed := true, recurses := true, apart := false, narrowed := true }
def GfLawsUptoSaid : Prop := gfLawsUptoRow.holds Try.pinned (OpenSpec.upto gfLawsSpec)

/-- 'flintlaw5.GfMakes', WHERE WHAT IT READS IS OF BULK AT MOST 1048576: true; the input reads as it did. -/
def gfMakesUptoRow : OpenClaim := { program := "ytgoacbbaiigpeaa", sum := "8c8fb6a51a0f28db5f30a6c782689c0ea71d55360d4649f5b148e19e022cc53d", func := "flint/flintlaw5.GfMakes", spec := "gfMakes", unfollowed := true, recurses := true, apart := false, narrowed := true }
def GfMakesUptoSaid : Prop := gfMakesUptoRow.holds Try.pinned (OpenSpec.upto gfMakesSpec)

/-- 'flintlaw5.GfInverts', WHERE WHAT IT READS IS OF BULK AT MOST 1048576: true; the input reads as it did. -/
def gfInvertsUptoRow : OpenClaim := { program := "ytgoacbbaiigpeaa", sum := "8c8fb6a51a0f28db5f30a6c782689c0ea71d55360d4649f5b148e19e022cc53d", func := "flint/flintlaw5.GfInverts", spec := "gfInverts", unfollowed := true, recurses := true, apart := false, narrowed := true }
def GfInvertsUptoSaid : Prop := gfInvertsUptoRow.holds Try.pinned (OpenSpec.upto gfInvertsSpec)

/-- 'flintlaw5.GfOwn', WHERE WHAT IT READS IS OF BULK AT MOST 1048576: true; the input reads as it did. -/
def gfOwnUptoRow : OpenClaim := { program := "ytgoacbbaiigpeaa", sum := "8c8fb6a51a0f28db5f30a6c782689c0ea71d55360d4649f5b148e19e022cc53d", func := "flint/flintlaw5.GfOwn", spec := "gfOwn", unfollowed := true, recurses := true, apart := false, narrowed := true }
def GfOwnUptoSaid : Prop := gfOwnUptoRow.holds Try.pinned (OpenSpec.upto gfOwnSpec)

/-- 'flintlaw5.GfSolves', WHERE WHAT IT READS IS OF BULK AT MOST 1048576: true; the input reads as it did. -/
def gfSolvesUptoRow : OpenClaim := { program := "ytgoacbbaiigpeaa", sum := "8c8fb6a51a0f28db5f30a6c782689c0ea71d55360d4649f5b148e19e022cc53d", func := "flint/flintlaw5.GfSolves", spec := "gfSolves", unfollowed := true, recurses := true, apart := false, narrowed := true }
def GfSolvesUptoSaid : Prop := gfSolvesUptoRow.holds Try.pinned (OpenSpec.upto gfSolvesSpec)

/-- 'flintlaw5.GfMatrices', WHERE WHAT IT READS IS OF BULK AT MOST 1048576: true; the input reads as it did. -/
def gfMatricesUptoRow : OpenClaim := { program := "ytgoacbbaiigpeaa", sum := "8c8fb6a51a0f28db5f30a6c782689c0ea71d55360d4649f5b148e19e022cc53d", func := "flint/flintlaw5.GfMatrices", spec := "gfMatrices", unfollowed := true, recurses := true, apart := false, narrowed := true }
def GfMatricesUptoSaid : Prop := gfMatricesUptoRow.holds Try.pinned (OpenSpec.upto gfMatricesSpec)

end Rows
end Go.Proofs.Ytgoacbbaiigpeaa
