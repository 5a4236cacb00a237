/-
  No cell of these rows narrows 'for every input' (looked for: loops, veiled, ifaces, maps, wideKeys, modest, calm, conditions, laid).
  DERIVED. THE GIVEN ROWS OF THIS SEAT. 4 by the template 'for every input the law returns true; each argument reads behind the call as it read before'; 0 by the template 'total and deterministic' (their statements: YtpfkfnphjbgohaaTotals.lean).
  GIVEN WITH THE SEED: the statements are not yours to turn. If you find one false, say at which input.
  Laid BY PROGRAM, IN A SANDBOX (cutbox-rows.mjs): the forced cells as the released guide's own fill.sh prints them over the translation 3275dbb49fcab7e1… (all of the seat's roots in one cut). By AI agents, Wed Nov 11 2026. No macro, syntax, notation, axiom, sorry.
-/
import Derived.Test.YtpfkfnphjbgohaaChecked
import GoSem.Claim
import GoSem.ClaimJoined
import GoSem.ClaimMapViews
import Derived.JoinedTies
import Derived.KernelRfl
namespace Go.Proofs.Ytpfkfnphjbgohaa
/- THE CELL 'sum', in the pinned program and in every row, IS THE sha256 OF THE DUMP (.gsa) THAT YtpfkfnphjbgohaaProg.lean LOADS. Nothing in Lean hashes anything: it is a label: what it is worth is what the hold of that sum in a sandbox is worth. -/
noncomputable def Try.pinned : Pinned := { name := "ytpfkfnphjbgohaa", sum := "3275dbb49fcab7e14ad56228957a43bee4896b4127ef50e9faa2a5a7e1922bac", checked := Try.checked }
namespace Rows
def none {H : Type} : Left H := { results := [], args := [] }

/-- 'flintlaw12.ElideOrders': WHATEVER THE INPUT: true; the input reads as it did. -/
def elideOrdersSpec : ChangeSpec := { name := "elideOrders", fn := fun _ => fun
  | [d1, d2] => { results := [.lit (.bool true)], args := [d1, d2] }
  | _ => none }
def elideOrdersRow : OpenClaim := { program := "ytpfkfnphjbgohaa", sum := "3275dbb49fcab7e14ad56228957a43bee4896b4127ef50e9faa2a5a7e1922bac", func := "flint/flintlaw12.ElideOrders", spec := "elideOrders", unfollowed := true, recurses := true, apart := false }
def ElideOrdersSaid : Prop := elideOrdersRow.holds Try.pinned (OpenSpec.ofChange elideOrdersSpec)

/-- ITS FALSE NEIGHBOUR: 'it returns false'. Refute it at one input. -/
def elideOrdersWrong : ChangeSpec := { name := "elideOrders", fn := fun _ => fun
  | [d1, d2] => { results := [.lit (.bool false)], args := [d1, d2] }
  | _ => none }
def ElideOrdersWrongFalsely : Prop := elideOrdersRow.holds Try.pinned (OpenSpec.ofChange elideOrdersWrong)

/-- 'flintlaw12.ElideAdds': WHATEVER THE INPUT: true; the input reads as it did. -/
def elideAddsSpec : ChangeSpec := { name := "elideAdds", fn := fun _ => fun
  | [d1, d2, d3, d4] => { results := [.lit (.bool true)], args := [d1, d2, d3, d4] }
  | _ => none }
def elideAddsRow : OpenClaim := { program := "ytpfkfnphjbgohaa", sum := "3275dbb49fcab7e14ad56228957a43bee4896b4127ef50e9faa2a5a7e1922bac", func := "flint/flintlaw12.ElideAdds", spec := "elideAdds", unfollowed := true, recurses := true, apart := false }
def ElideAddsSaid : Prop := elideAddsRow.holds Try.pinned (OpenSpec.ofChange elideAddsSpec)

/-- ITS FALSE NEIGHBOUR: 'it returns false'. Refute it at one input. -/
def elideAddsWrong : ChangeSpec := { name := "elideAdds", fn := fun _ => fun
  | [d1, d2, d3, d4] => { results := [.lit (.bool false)], args := [d1, d2, d3, d4] }
  | _ => none }
def ElideAddsWrongFalsely : Prop := elideAddsRow.holds Try.pinned (OpenSpec.ofChange elideAddsWrong)

/-- 'flintlaw12.ElideFacts': WHATEVER THE INPUT: true; the input reads as it did. -/
def elideFactsSpec : ChangeSpec := { name := "elideFacts", fn := fun _ => fun
  | [d1, d2] => { results := [.lit (.bool true)], args := [d1, d2] }
  | _ => none }
def elideFactsRow : OpenClaim := { program := "ytpfkfnphjbgohaa", sum := "3275dbb49fcab7e14ad56228957a43bee4896b4127ef50e9faa2a5a7e1922bac", func := "flint/flintlaw12.ElideFacts", spec := "elideFacts", unfollowed := true, recurses := true, apart := false }
def ElideFactsSaid : Prop := elideFactsRow.holds Try.pinned (OpenSpec.ofChange elideFactsSpec)

/-- ITS FALSE NEIGHBOUR: 'it returns false'. Refute it at one input. -/
def elideFactsWrong : ChangeSpec := { name := "elideFacts", fn := fun _ => fun
  | [d1, d2] => { results := [.lit (.bool false)], args := [d1, d2] }
  | _ => none }
def ElideFactsWrongFalsely : Prop := elideFactsRow.holds Try.pinned (OpenSpec.ofChange elideFactsWrong)

/-- 'flintlaw12.ElidePlays': WHATEVER THE INPUT: true; the input reads as it did. -/
def elidePlaysSpec : ChangeSpec := { name := "elidePlays", fn := fun _ => fun
  | [d1, d2, d3, d4, d5, d6, d7] => { results := [.lit (.bool true)], args := [d1, d2, d3, d4, d5, d6, d7] }
  | _ => none }
def elidePlaysRow : OpenClaim := { program := "ytpfkfnphjbgohaa", sum := "3275dbb49fcab7e14ad56228957a43bee4896b4127ef50e9faa2a5a7e1922bac", func := "flint/flintlaw12.ElidePlays", spec := "elidePlays", unfollowed := true, recurses := true, apart := false }
def ElidePlaysSaid : Prop := elidePlaysRow.holds Try.pinned (OpenSpec.ofChange elidePlaysSpec)

/-- ITS FALSE NEIGHBOUR: 'it returns false'. Refute it at one input. -/
def elidePlaysWrong : ChangeSpec := { name := "elidePlays", fn := fun _ => fun
  | [d1, d2, d3, d4, d5, d6, d7] => { results := [.lit (.bool false)], args := [d1, d2, d3, d4, d5, d6, d7] }
  | _ => none }
def ElidePlaysWrongFalsely : Prop := elidePlaysRow.holds Try.pinned (OpenSpec.ofChange elidePlaysWrong)

/- THE SECOND FORM. 'bulk': how many values and letters a reading holds, each counted each time it is reached (what is shared counts as often as it is met; a slice's spare places count too). A statement '..UptoSaid' is the law's where the arguments, and the package variables that the reading takes, are together of bulk at most 1048576: NARROWER than '..Said'. Prove '..Said' where nothing that the law and all that it calls make is longer than what came in: it says more and counts as full. Else prove '..UptoSaid'. A law counts once. -/
mutual
def uptoBulk {H : Type} : DataW H → Nat
  | .lit (.string bytes) => bytes.length + 1
  | .lit _ => 1
  | .nil => 1
  | .ptr d => uptoBulk d + 1
  | .slice elems spare => uptoBulkAll elems + uptoBulkAll spare + 1
  | .agg parts => uptoBulkAll parts + 1
  | .iface _ d => uptoBulk d + 1
  | .map entries => uptoBulkEntries entries + 1
  | .held _ => 1
def uptoBulkAll {H : Type} : List (DataW H) → Nat
  | [] => 0
  | d :: r => uptoBulk d + uptoBulkAll r
def uptoBulkEntries {H : Type} : List (Lit × DataW H) → Nat
  | [] => 0
  | x :: r => uptoBulkEntry x + uptoBulkEntries r
def uptoBulkEntry {H : Type} : Lit × DataW H → Nat
  | (.string bytes, d) => bytes.length + uptoBulk d + 1
  | (_, d) => uptoBulk d + 1
 end
def uptoSmall : (H : Type) → List (DataW H) → Bool := fun _ ds => decide (uptoBulkAll ds ≤ 1048576)
def OpenSpec.upto (s : _root_.Go.ChangeSpec) : _root_.Go.OpenSpec := { _root_.Go.OpenSpec.ofChange s with cond := some uptoSmall }

/-- 'flintlaw12.ElideOrders', WHERE WHAT IT READS IS OF BULK AT MOST 1048576: true; the input reads as it did. -/
def elideOrdersUptoRow : OpenClaim := { program := "ytpfkfnphjbgohaa", sum := "3275dbb49fcab7e14ad56228957a43bee4896b4127ef50e9faa2a5a7e1922bac", func := "flint/flintlaw12.ElideOrders", spec := "elideOrders", unfollowed := true, recurses := true, apart := false, narrowed := true }
def ElideOrdersUptoSaid : Prop := elideOrdersUptoRow.holds Try.pinned (OpenSpec.upto elideOrdersSpec)

/-- 'flintlaw12.ElideAdds', WHERE WHAT IT READS IS OF BULK AT MOST 1048576: true; the input reads as it did. -/
def elideAddsUptoRow : OpenClaim := { program := "ytpfkfnphjbgohaa", sum := "3275dbb49fcab7e14ad56228957a43bee4896b4127ef50e9faa2a5a7e1922bac", func := "flint/flintlaw12.ElideAdds", spec := "elideAdds", unfollowed := true, recurses := true, apart := false, narrowed := true }
def ElideAddsUptoSaid : Prop := elideAddsUptoRow.holds Try.pinned (OpenSpec.upto elideAddsSpec)

/-- 'flintlaw12.ElideFacts', WHERE WHAT IT READS IS OF BULK AT MOST 1048576: true; the input reads as it did. -/
def elideFactsUptoRow : OpenClaim := { program := "ytpfkfnphjbgohaa", sum := "3275dbb49fcab7e14ad56228957a43bee4896b4127ef50e9faa2a5a7e1922bac", func := "flint/flintlaw12.ElideFacts", spec := "elideFacts", unfollowed := true, recurses := true, apart := false, narrowed := true }
def ElideFactsUptoSaid : Prop := elideFactsUptoRow.holds Try.pinned (OpenSpec.upto elideFactsSpec)

/-- 'flintlaw12.ElidePlays', WHERE WHAT IT READS IS OF BULK AT MOST 1048576: true; the input reads as it did. -/
def elidePlaysUptoRow : OpenClaim := { program := "ytpfkfnphjbgohaa", sum := "3275dbb49fcab7e14ad56228957a43bee4896b4127ef50e9faa2a5a7e1922bac", func := "flint/flintlaw12.ElidePlays", spec := "elidePlays", unfollowed := true, recurses := true, apart := false, narrowed := true }
def ElidePlaysUptoSaid : Prop := elidePlaysUptoRow.holds Try.pinned (OpenSpec.upto elidePlaysSpec)

end Rows
end Go.Proofs.Ytpfkfnphjbgohaa
