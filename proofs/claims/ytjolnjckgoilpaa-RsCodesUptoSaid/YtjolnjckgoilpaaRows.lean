/-
  No cell of these rows narrows 'for every input' (looked for: loops, veiled, ifaces, maps, wideKeys, modest, calm, conditions, laid).
  DERIVED. THE GIVEN ROWS OF THIS SEAT. 5 by the template 'for every input the law returns true; each argument reads behind the call as it read before'; 0 by the template 'total and deterministic' (their statements: YtjolnjckgoilpaaTotals.lean).
  GIVEN WITH THE SEED: the statements are not yours to turn. If you find one false, say at which input.
  Laid BY PROGRAM, IN A SANDBOX (cutbox-rows.mjs): the forced cells as the released guide's own fill.sh prints them over the translation 3fa7c6fb96e841d4… (all of the seat's roots in one cut). By AI agents, Wed Nov 11 2026. No macro, syntax, notation, axiom, sorry.
-/
import Derived.Test.YtjolnjckgoilpaaChecked
import GoSem.Claim
import GoSem.ClaimJoined
import GoSem.ClaimMapViews
import Derived.JoinedTies
import Derived.KernelRfl
namespace Go.Proofs.Ytjolnjckgoilpaa
/- THE CELL 'sum', in the pinned program and in every row, IS THE sha256 OF THE DUMP (.gsa) THAT YtjolnjckgoilpaaProg.lean LOADS. Nothing in Lean hashes anything: it is a label: what it is worth is what the hold of that sum in a sandbox is worth. -/
noncomputable def Try.pinned : Pinned := { name := "ytjolnjckgoilpaa", sum := "3fa7c6fb96e841d40b6a1acbc5ee3e49b81d748bf36d5e6dbf42d0ca551ac389", checked := Try.checked }
namespace Rows
def none {H : Type} : Left H := { results := [], args := [] }

/-- 'flintlaw6.RsAny': WHATEVER THE INPUT: true; the input reads as it did. -/
def rsAnySpec : ChangeSpec := { name := "rsAny", fn := fun _ => fun
  | [d1, d2, d3, d4] => { results := [.lit (.bool true)], args := [d1, d2, d3, d4] }
  | _ => none }
def rsAnyRow : OpenClaim := { program := "ytjolnjckgoilpaa", sum := "3fa7c6fb96e841d40b6a1acbc5ee3e49b81d748bf36d5e6dbf42d0ca551ac389", func := "flint/flintlaw6.RsAny", spec := "rsAny", unfollowed := true, recurses := true, apart := false }
def RsAnySaid : Prop := rsAnyRow.holds Try.pinned (OpenSpec.ofChange rsAnySpec)

/-- ITS FALSE NEIGHBOUR: 'it returns false'. Refute it at one input. -/
def rsAnyWrong : ChangeSpec := { name := "rsAny", fn := fun _ => fun
  | [d1, d2, d3, d4] => { results := [.lit (.bool false)], args := [d1, d2, d3, d4] }
  | _ => none }
def RsAnyWrongFalsely : Prop := rsAnyRow.holds Try.pinned (OpenSpec.ofChange rsAnyWrong)

/-- 'flintlaw6.RsSums': WHATEVER THE INPUT: true; the input reads as it did. -/
def rsSumsSpec : ChangeSpec := { name := "rsSums", fn := fun _ => fun
  | [d1, d2] => { results := [.lit (.bool true)], args := [d1, d2] }
  | _ => none }
def rsSumsRow : OpenClaim := { program := "ytjolnjckgoilpaa", sum := "3fa7c6fb96e841d40b6a1acbc5ee3e49b81d748bf36d5e6dbf42d0ca551ac389", func := "flint/flintlaw6.RsSums", spec := "rsSums", unfollowed := true, recurses := true, apart := false }
def RsSumsSaid : Prop := rsSumsRow.holds Try.pinned (OpenSpec.ofChange rsSumsSpec)

/-- ITS FALSE NEIGHBOUR: 'it returns false'. Refute it at one input. -/
def rsSumsWrong : ChangeSpec := { name := "rsSums", fn := fun _ => fun
  | [d1, d2] => { results := [.lit (.bool false)], args := [d1, d2] }
  | _ => none }
def RsSumsWrongFalsely : Prop := rsSumsRow.holds Try.pinned (OpenSpec.ofChange rsSumsWrong)

/-- 'flintlaw6.RsOwn': WHATEVER THE INPUT: true; the input reads as it did. -/
def rsOwnSpec : ChangeSpec := { name := "rsOwn", fn := fun _ => fun
  | [d1, d2] => { results := [.lit (.bool true)], args := [d1, d2] }
  | _ => none }
def rsOwnRow : OpenClaim := { program := "ytjolnjckgoilpaa", sum := "3fa7c6fb96e841d40b6a1acbc5ee3e49b81d748bf36d5e6dbf42d0ca551ac389", func := "flint/flintlaw6.RsOwn", spec := "rsOwn", unfollowed := true, recurses := true, apart := false }
def RsOwnSaid : Prop := rsOwnRow.holds Try.pinned (OpenSpec.ofChange rsOwnSpec)

/-- ITS FALSE NEIGHBOUR: 'it returns false'. Refute it at one input. -/
def rsOwnWrong : ChangeSpec := { name := "rsOwn", fn := fun _ => fun
  | [d1, d2] => { results := [.lit (.bool false)], args := [d1, d2] }
  | _ => none }
def RsOwnWrongFalsely : Prop := rsOwnRow.holds Try.pinned (OpenSpec.ofChange rsOwnWrong)

/-- 'flintlaw6.RsCodes': WHATEVER THE INPUT: true; the input reads as it did. -/
def rsCodesSpec : ChangeSpec := { name := "rsCodes", fn := fun _ => fun
  | [d1, d2] => { results := [.lit (.bool true)], args := [d1, d2] }
  | _ => none }
def rsCodesRow : OpenClaim := { program := "ytjolnjckgoilpaa", sum := "3fa7c6fb96e841d40b6a1acbc5ee3e49b81d748bf36d5e6dbf42d0ca551ac389", func := "flint/flintlaw6.RsCodes", spec := "rsCodes", unfollowed := true, recurses := true, apart := false }
def RsCodesSaid : Prop := rsCodesRow.holds Try.pinned (OpenSpec.ofChange rsCodesSpec)

/-- ITS FALSE NEIGHBOUR: 'it returns false'. Refute it at one input. -/
def rsCodesWrong : ChangeSpec := { name := "rsCodes", fn := fun _ => fun
  | [d1, d2] => { results := [.lit (.bool false)], args := [d1, d2] }
  | _ => none }
def RsCodesWrongFalsely : Prop := rsCodesRow.holds Try.pinned (OpenSpec.ofChange rsCodesWrong)

/-- 'flintlaw6.RsFinds': WHATEVER THE INPUT: true; the input reads as it did. -/
def rsFindsSpec : ChangeSpec := { name := "rsFinds", fn := fun _ => fun
  | [d1, d2, d3] => { results := [.lit (.bool true)], args := [d1, d2, d3] }
  | _ => none }
def rsFindsRow : OpenClaim := { program := "ytjolnjckgoilpaa", sum := "3fa7c6fb96e841d40b6a1acbc5ee3e49b81d748bf36d5e6dbf42d0ca551ac389", func := "flint/flintlaw6.RsFinds", spec := "rsFinds", unfollowed := true, recurses := true, apart := false }
def RsFindsSaid : Prop := rsFindsRow.holds Try.pinned (OpenSpec.ofChange rsFindsSpec)

/-- ITS FALSE NEIGHBOUR: 'it returns false'. Refute it at one input. -/
def rsFindsWrong : ChangeSpec := { name := "rsFinds", fn := fun _ => fun
  | [d1, d2, d3] => { results := [.lit (.bool false)], args := [d1, d2, d3] }
  | _ => none }
def RsFindsWrongFalsely : Prop := rsFindsRow.holds Try.pinned (OpenSpec.ofChange rsFindsWrong)

/- THE SECOND FORM. 'bulk': how many values and letters a reading holds, each counted each time it is reached (what is shared counts as often as it is met; a slice's spare places count too). A statement '..UptoSaid' is the law's where the arguments, and the package variables that the reading takes, are together of bulk at most 1048576: NARROWER than '..Said'. Prove '..Said' where nothing that the law and all that it calls make is longer than what came in: it says more and counts as full. Else prove '..UptoSaid'. A law counts once. -/
mutual
def uptoBulk {H : Type} : DataW H → Nat
  | .lit (.string bytes) => bytes.length + 1
  | .lit _ => 1
  | .nil => 1
  | .ptr d => uptoBulk d + 1
  | .slice elems spare => uptoBulkAll elems + uptoBulkAll spare + 1
  | .agg parts => uptoBulkAll parts + 1
  | .iface _ d => uptoBulk d + 1
  | .map entries => uptoBulkEntries entries + 1
  | .held _ => 1
def uptoBulkAll {H : Type} : List (DataW H) → Nat
  | [] => 0
  | d :: r => uptoBulk d + uptoBulkAll r
def uptoBulkEntries {H : Type} : List (Lit × DataW H) → Nat
  | [] => 0
  | x :: r => uptoBulkEntry x + uptoBulkEntries r
def uptoBulkEntry {H : Type} : Lit × DataW H → Nat
  | (.string bytes, d) => bytes.length + uptoBulk d + 1
  | (_, d) => uptoBulk d + 1
 end
def uptoSmall : (H : Type) → List (DataW H) → Bool := fun _ ds => decide (uptoBulkAll ds ≤ 1048576)
def OpenSpec.upto (s : _root_.Go.ChangeSpec) : _root_.Go.OpenSpec := { _root_.Go.OpenSpec.ofChange s with cond := some uptoSmall }

/-- 'flintlaw6.RsAny', WHERE WHAT IT READS IS OF BULK AT MOST 1048576: true; the input reads as it did. -/
def rsAnyUptoRow : OpenClaim := { program := "ytjolnjckgoilpaa", sum := "3fa7c6fb96e841d40b6a1acbc5ee3e49b81d748bf36d5e6dbf42d0ca551ac389", func := "flint/flintlaw6.RsAny", spec := "rsAny", unfollowed := true, recurses := true, apart := false, narrowed := true }
def RsAnyUptoSaid : Prop := rsAnyUptoRow.holds Try.pinned (OpenSpec.upto rsAnySpec)

/-- 'flintlaw6.RsSums', WHERE WHAT IT READS IS OF BULK AT MOST 1048576: true; the input reads as it did. -/
def rsSumsUptoRow : OpenClaim := { program := "ytjolnjckgoilpaa", sum := "3fa7c6fb96e841d40b6a1acbc5ee3e49b81d748bf36d5e6dbf42d0ca551ac389", func := "flint/flintlaw6.RsSums", spec := "rsSums", unfollowed := true, recurses := true, apart := false, narrowed := true }
def RsSumsUptoSaid : Prop := rsSumsUptoRow.holds Try.pinned (OpenSpec.upto rsSumsSpec)

/-- 'flintlaw6.RsOwn', WHERE WHAT IT READS IS OF BULK AT MOST 1048576: true; the input reads as it did. -/
def rsOwnUptoRow : OpenClaim := { program := "ytjolnjckgoilpaa", sum := "3fa7c6fb96e841d40b6a1acbc5ee3e49b81d748bf36d5e6dbf42d0ca551ac389", func := "flint/flintlaw6.RsOwn", spec := "rsOwn", unfollowed := true, recurses := true, apart := false, narrowed := true }
def RsOwnUptoSaid : Prop := rsOwnUptoRow.holds Try.pinned (OpenSpec.upto rsOwnSpec)

/-- 'flintlaw6.RsCodes', WHERE WHAT IT READS IS OF BULK AT MOST 1048576: true; the input reads as it did. -/
def rsCodesUptoRow : OpenClaim := { program := "ytjolnjckgoilpaa", sum := "3fa7c6fb96e841d40b6a1acbc5ee3e49b81d748bf36d5e6dbf42d0ca551ac389", func := "flint/flintlaw6.RsCodes", spec := "rsCodes", unfollowed := true, recurses := true, apart := false, narrowed := true }
def RsCodesUptoSaid : Prop := rsCodesUptoRow.holds Try.pinned (OpenSpec.upto rsCodesSpec)

/-- 'flintlaw6.RsFinds', WHERE WHAT IT READS IS OF BULK AT MOST 1048576: true; the input reads as it did. -/
def rsFindsUptoRow : OpenClaim := { program := "ytjolnjckgoilpaa", sum := "3fa7c6fb96e841d40b6a1acbc5ee3e49b81d748bf36d5e6dbf42d0ca551ac389", func := "flint/flintlaw6.RsFinds", spec := "rsFinds", unfollowed := true, recurses := true, apart := false, narrowed := true }
def RsFindsUptoSaid : Prop := rsFindsUptoRow.holds Try.pinned (OpenSpec.upto rsFindsSpec)

end Rows
end Go.Proofs.Ytjolnjckgoilpaa
