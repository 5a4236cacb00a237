/-
  No cell of these rows narrows 'for every input' (looked for: loops, veiled, ifaces, maps, wideKeys, modest, calm, conditions, laid).
  DERIVED. THE GIVEN ROWS OF THIS SEAT. 5 by the template 'for every input the law returns true; each argument reads behind the call as it read before'; 0 by the template 'total and deterministic' (their statements: YtjnicooboiijgaaTotals.lean).
  GIVEN WITH THE SEED: the statements are not yours to turn. If you find one false, say at which input.
  Laid BY PROGRAM, IN A SANDBOX (cutbox-rows.mjs): the forced cells as the released guide's own fill.sh prints them over the translation e7d4a3c9e04325db… (all of the seat's roots in one cut). By AI agents, Wed Nov 11 2026. No macro, syntax, notation, axiom, sorry.
-/
import Derived.Test.YtjnicooboiijgaaChecked
import GoSem.Claim
import GoSem.ClaimJoined
import GoSem.ClaimMapViews
import Derived.JoinedTies
import Derived.KernelRfl
namespace Go.Proofs.Ytjnicooboiijgaa
/- THE CELL 'sum', in the pinned program and in every row, IS THE sha256 OF THE DUMP (.gsa) THAT YtjnicooboiijgaaProg.lean LOADS. Nothing in Lean hashes anything: it is a label: what it is worth is what the hold of that sum in a sandbox is worth. -/
noncomputable def Try.pinned : Pinned := { name := "ytjnicooboiijgaa", sum := "e7d4a3c9e04325dbcaa7c7b554254138f28642d0eba18f40280f1b8386ca4f40", checked := Try.checked }
namespace Rows
def none {H : Type} : Left H := { results := [], args := [] }

/-- 'flintlaw9.SegWrites': WHATEVER THE INPUT: true; the input reads as it did. -/
def segWritesSpec : ChangeSpec := { name := "segWrites", fn := fun _ => fun
  | [d1, d2, d3] => { results := [.lit (.bool true)], args := [d1, d2, d3] }
  | _ => none }
def segWritesRow : OpenClaim := { program := "ytjnicooboiijgaa", sum := "e7d4a3c9e04325dbcaa7c7b554254138f28642d0eba18f40280f1b8386ca4f40", func := "flint/flintlaw9.SegWrites", spec := "segWrites", unfollowed := true, recurses := true, apart := false }
def SegWritesSaid : Prop := segWritesRow.holds Try.pinned (OpenSpec.ofChange segWritesSpec)

/-- ITS FALSE NEIGHBOUR: 'it returns false'. Refute it at one input. -/
def segWritesWrong : ChangeSpec := { name := "segWrites", fn := fun _ => fun
  | [d1, d2, d3] => { results := [.lit (.bool false)], args := [d1, d2, d3] }
  | _ => none }
def SegWritesWrongFalsely : Prop := segWritesRow.holds Try.pinned (OpenSpec.ofChange segWritesWrong)

/-- 'flintlaw9.SegHolds': WHATEVER THE INPUT: true; the input reads as it did. -/
def segHoldsSpec : ChangeSpec := { name := "segHolds", fn := fun _ => fun
  | [d1, d2, d3] => { results := [.lit (.bool true)], args := [d1, d2, d3] }
  | _ => none }
def segHoldsRow : OpenClaim := { program := "ytjnicooboiijgaa", sum := "e7d4a3c9e04325dbcaa7c7b554254138f28642d0eba18f40280f1b8386ca4f40", func := "flint/flintlaw9.SegHolds", spec := "segHolds", unfollowed := true, recurses := true, apart := false }
def SegHoldsSaid : Prop := segHoldsRow.holds Try.pinned (OpenSpec.ofChange segHoldsSpec)

/-- ITS FALSE NEIGHBOUR: 'it returns false'. Refute it at one input. -/
def segHoldsWrong : ChangeSpec := { name := "segHolds", fn := fun _ => fun
  | [d1, d2, d3] => { results := [.lit (.bool false)], args := [d1, d2, d3] }
  | _ => none }
def SegHoldsWrongFalsely : Prop := segHoldsRow.holds Try.pinned (OpenSpec.ofChange segHoldsWrong)

/-- 'flintlaw9.SegUnlike': WHATEVER THE INPUT: true; the input reads as it did. -/
def segUnlikeSpec : ChangeSpec := { name := "segUnlike", fn := fun _ => fun
  | [d1, d2, d3, d4, d5, d6, d7] => { results := [.lit (.bool true)], args := [d1, d2, d3, d4, d5, d6, d7] }
  | _ => none }
def segUnlikeRow : OpenClaim := { program := "ytjnicooboiijgaa", sum := "e7d4a3c9e04325dbcaa7c7b554254138f28642d0eba18f40280f1b8386ca4f40", func := "flint/flintlaw9.SegUnlike", spec := "segUnlike", unfollowed := true, recurses := true, apart := false }
def SegUnlikeSaid : Prop := segUnlikeRow.holds Try.pinned (OpenSpec.ofChange segUnlikeSpec)

/-- ITS FALSE NEIGHBOUR: 'it returns false'. Refute it at one input. -/
def segUnlikeWrong : ChangeSpec := { name := "segUnlike", fn := fun _ => fun
  | [d1, d2, d3, d4, d5, d6, d7] => { results := [.lit (.bool false)], args := [d1, d2, d3, d4, d5, d6, d7] }
  | _ => none }
def SegUnlikeWrongFalsely : Prop := segUnlikeRow.holds Try.pinned (OpenSpec.ofChange segUnlikeWrong)

/-- 'flintlaw9.SegPlaces': WHATEVER THE INPUT: true; the input reads as it did. -/
def segPlacesSpec : ChangeSpec := { name := "segPlaces", fn := fun _ => fun
  | [d1, d2, d3] => { results := [.lit (.bool true)], args := [d1, d2, d3] }
  | _ => none }
def segPlacesRow : OpenClaim := { program := "ytjnicooboiijgaa", sum := "e7d4a3c9e04325dbcaa7c7b554254138f28642d0eba18f40280f1b8386ca4f40", func := "flint/flintlaw9.SegPlaces", spec := "segPlaces", unfollowed := true, recurses := true, apart := false }
def SegPlacesSaid : Prop := segPlacesRow.holds Try.pinned (OpenSpec.ofChange segPlacesSpec)

/-- ITS FALSE NEIGHBOUR: 'it returns false'. Refute it at one input. -/
def segPlacesWrong : ChangeSpec := { name := "segPlaces", fn := fun _ => fun
  | [d1, d2, d3] => { results := [.lit (.bool false)], args := [d1, d2, d3] }
  | _ => none }
def SegPlacesWrongFalsely : Prop := segPlacesRow.holds Try.pinned (OpenSpec.ofChange segPlacesWrong)

/-- 'flintlaw9.SegRows': WHATEVER THE INPUT: true; the input reads as it did. -/
def segRowsSpec : ChangeSpec := { name := "segRows", fn := fun _ => fun
  | [d1, d2, d3, d4, d5, d6] => { results := [.lit (.bool true)], args := [d1, d2, d3, d4, d5, d6] }
  | _ => none }
def segRowsRow : OpenClaim := { program := "ytjnicooboiijgaa", sum := "e7d4a3c9e04325dbcaa7c7b554254138f28642d0eba18f40280f1b8386ca4f40", func := "flint/flintlaw9.SegRows", spec := "segRows", unfollowed := true, recurses := true, apart := false }
def SegRowsSaid : Prop := segRowsRow.holds Try.pinned (OpenSpec.ofChange segRowsSpec)

/-- ITS FALSE NEIGHBOUR: 'it returns false'. Refute it at one input. -/
def segRowsWrong : ChangeSpec := { name := "segRows", fn := fun _ => fun
  | [d1, d2, d3, d4, d5, d6] => { results := [.lit (.bool false)], args := [d1, d2, d3, d4, d5, d6] }
  | _ => none }
def SegRowsWrongFalsely : Prop := segRowsRow.holds Try.pinned (OpenSpec.ofChange segRowsWrong)

/- THE SECOND FORM. 'bulk': how many values and letters a reading holds, each counted each time it is reached (what is shared counts as often as it is met; a slice's spare places count too). A statement '..UptoSaid' is the law's where the arguments, and the package variables that the reading takes, are together of bulk at most 1048576: NARROWER than '..Said'. Prove '..Said' where nothing that the law and all that it calls make is longer than what came in: it says more and counts as full. Else prove '..UptoSaid'. A law counts once. -/
mutual
def uptoBulk {H : Type} : DataW H → Nat
  | .lit (.string bytes) => bytes.length + 1
  | .lit _ => 1
  | .nil => 1
  | .ptr d => uptoBulk d + 1
  | .slice elems spare => uptoBulkAll elems + uptoBulkAll spare + 1
  | .agg parts => uptoBulkAll parts + 1
  | .iface _ d => uptoBulk d + 1
  | .map entries => uptoBulkEntries entries + 1
  | .held _ => 1
def uptoBulkAll {H : Type} : List (DataW H) → Nat
  | [] => 0
  | d :: r => uptoBulk d + uptoBulkAll r
def uptoBulkEntries {H : Type} : List (Lit × DataW H) → Nat
  | [] => 0
  | x :: r => uptoBulkEntry x + uptoBulkEntries r
def uptoBulkEntry {H : Type} : Lit × DataW H → Nat
  | (.string bytes, d) => bytes.length + uptoBulk d + 1
  | (_, d) => uptoBulk d + 1
 end
def uptoSmall : (H : Type) → List (DataW H) → Bool := fun _ ds => decide (uptoBulkAll ds ≤ 1048576)
def OpenSpec.upto (s : _root_.Go.ChangeSpec) : _root_.Go.OpenSpec := { _root_.Go.OpenSpec.ofChange s with cond := some uptoSmall }

/-- 'flintlaw9.SegWrites', WHERE WHAT IT READS IS OF BULK AT MOST 1048576: true; the input reads as it did. -/
def segWritesUptoRow : OpenClaim := { program := "ytjnicooboiijgaa", sum := "e7d4a3c9e04325dbcaa7c7b554254138f28642d0eba18f40280f1b8386ca4f40", func := "flint/flintlaw9.SegWrites", spec := "segWrites", unfollowed := true, recurses := true, apart := false, narrowed := true }
def SegWritesUptoSaid : Prop := segWritesUptoRow.holds Try.pinned (OpenSpec.upto segWritesSpec)

/-- 'flintlaw9.SegHolds', WHERE WHAT IT READS IS OF BULK AT MOST 1048576: true; the input reads as it did. -/
def segHoldsUptoRow : OpenClaim := { program := "ytjnicooboiijgaa", sum := "e7d4a3c9e04325dbcaa7c7b554254138f28642d0eba18f40280f1b8386ca4f40", func := "flint/flintlaw9.SegHolds", spec := "segHolds", unfollowed := true, recurses := true, apart := false, narrowed := true }
def SegHoldsUptoSaid : Prop := segHoldsUptoRow.holds Try.pinned (OpenSpec.upto segHoldsSpec)

/-- 'flintlaw9.SegUnlike', WHERE WHAT IT READS IS OF BULK AT MOST 1048576: true; the input reads as it did. -/
def segUnlikeUptoRow : OpenClaim := { program := "ytjnicooboiijgaa", sum := "e7d4a3c9e04325dbcaa7c7b554254138f28642d0eba18f40280f1b8386ca4f40", func := "flint/flintlaw9.SegUnlike", spec := "segUnlike", unfollowed := true, recurses := true, apart := false, narrowed := true }
def SegUnlikeUptoSaid : Prop := segUnlikeUptoRow.holds Try.pinned (OpenSpec.upto segUnlikeSpec)

/-- 'flintlaw9.SegPlaces', WHERE WHAT IT READS IS OF BULK AT MOST 1048576: true; the input reads as it did. -/
def segPlacesUptoRow : OpenClaim := { program := "ytjnicooboiijgaa", sum := "e7d4a3c9e04325dbcaa7c7b554254138f28642d0eba18f40280f1b8386ca4f40", func := "flint/flintlaw9.SegPlaces", spec := "segPlaces", unfollowed := true, recurses := true, apart := false, narrowed := true }
def SegPlacesUptoSaid : Prop := segPlacesUptoRow.holds Try.pinned (OpenSpec.upto segPlacesSpec)

/-- 'flintlaw9.SegRows', WHERE WHAT IT READS IS OF BULK AT MOST 1048576: true; the input reads as it did. -/
def segRowsUptoRow : OpenClaim := { program := "ytjnicooboiijgaa", sum := "e7d4a3c9e04325dbcaa7c7b554254138f28642d0eba18f40280f1b8386ca4f40", func := "flint/flintlaw9.SegRows", spec := "segRows", unfollowed := true, recurses := true, apart := false, narrowed := true }
def SegRowsUptoSaid : Prop := segRowsUptoRow.holds Try.pinned (OpenSpec.upto segRowsSpec)

end Rows
end Go.Proofs.Ytjnicooboiijgaa
