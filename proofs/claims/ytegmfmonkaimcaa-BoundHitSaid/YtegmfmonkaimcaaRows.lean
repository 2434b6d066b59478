/-
  No cell of these rows narrows 'for every input' (looked for: loops, veiled, ifaces, maps, wideKeys, modest, calm, conditions, laid).
  DERIVED. THE GIVEN ROWS OF THIS SEAT. 8 by the template 'for every input the law returns true; each argument reads behind the call as it read before'; 0 by the template 'total and deterministic' (their statements: YtegmfmonkaimcaaTotals.lean).
  GIVEN WITH THE SEED: the statements are not yours to turn. If you find one false, say at which input.
  Laid BY PROGRAM, IN A SANDBOX (cutbox-rows.mjs): the forced cells as the released guide's own fill.sh prints them over the translation 33c41ae9653ddbe9… (all of the seat's roots in one cut). By AI agents, Wed Nov 11 2026. No macro, syntax, notation, axiom, sorry.
-/
import Derived.Test.YtegmfmonkaimcaaChecked
import GoSem.Claim
import GoSem.ClaimJoined
import GoSem.ClaimMapViews
import Derived.JoinedTies
import Derived.KernelRfl
namespace Go.Proofs.Ytegmfmonkaimcaa
/- THE CELL 'sum', in the pinned program and in every row, IS THE sha256 OF THE DUMP (.gsa) THAT YtegmfmonkaimcaaProg.lean LOADS. Nothing in Lean hashes anything: it is a label: what it is worth is what the hold of that sum in a sandbox is worth. -/
noncomputable def Try.pinned : Pinned := { name := "ytegmfmonkaimcaa", sum := "33c41ae9653ddbe9538dc03da9363b568fd15f0ab112a31c1be4ec642747d8ac", checked := Try.checked }
namespace Rows
def none {H : Type} : Left H := { results := [], args := [] }

/-- 'ninepinlaw12.BoundOf': WHATEVER THE INPUT: true; the input reads as it did. -/
def boundOfSpec : ChangeSpec := { name := "boundOf", fn := fun _ => fun
  | [d1, d2, d3] => { results := [.lit (.bool true)], args := [d1, d2, d3] }
  | _ => none }
def boundOfRow : OpenClaim := { program := "ytegmfmonkaimcaa", sum := "33c41ae9653ddbe9538dc03da9363b568fd15f0ab112a31c1be4ec642747d8ac", func := "ninepin/ninepinlaw12.BoundOf", spec := "boundOf", inPlace := ["math/bits.Add64"], unfollowed := true, recurses := true, apart := false }
def BoundOfSaid : Prop := boundOfRow.holds Try.pinned (OpenSpec.ofChange boundOfSpec)

/-- ITS FALSE NEIGHBOUR: 'it returns false'. Refute it at one input. -/
def boundOfWrong : ChangeSpec := { name := "boundOf", fn := fun _ => fun
  | [d1, d2, d3] => { results := [.lit (.bool false)], args := [d1, d2, d3] }
  | _ => none }
def BoundOfWrongFalsely : Prop := boundOfRow.holds Try.pinned (OpenSpec.ofChange boundOfWrong)

/-- 'ninepinlaw12.BoundHit': WHATEVER THE INPUT: true; the input reads as it did. -/
def boundHitSpec : ChangeSpec := { name := "boundHit", fn := fun _ => fun
  | [d1, d2, d3] => { results := [.lit (.bool true)], args := [d1, d2, d3] }
  | _ => none }
def boundHitRow : OpenClaim := { program := "ytegmfmonkaimcaa", sum := "33c41ae9653ddbe9538dc03da9363b568fd15f0ab112a31c1be4ec642747d8ac", func := "ninepin/ninepinlaw12.BoundHit", spec := "boundHit", inPlace := ["math/bits.Add64"], unfollowed := true, recurses := true, apart := false }
def BoundHitSaid : Prop := boundHitRow.holds Try.pinned (OpenSpec.ofChange boundHitSpec)

/-- ITS FALSE NEIGHBOUR: 'it returns false'. Refute it at one input. -/
def boundHitWrong : ChangeSpec := { name := "boundHit", fn := fun _ => fun
  | [d1, d2, d3] => { results := [.lit (.bool false)], args := [d1, d2, d3] }
  | _ => none }
def BoundHitWrongFalsely : Prop := boundHitRow.holds Try.pinned (OpenSpec.ofChange boundHitWrong)

/-- 'ninepinlaw12.BoundGrow': WHATEVER THE INPUT: true; the input reads as it did. -/
def boundGrowSpec : ChangeSpec := { name := "boundGrow", fn := fun _ => fun
  | [d1, d2, d3] => { results := [.lit (.bool true)], args := [d1, d2, d3] }
  | _ => none }
def boundGrowRow : OpenClaim := { program := "ytegmfmonkaimcaa", sum := "33c41ae9653ddbe9538dc03da9363b568fd15f0ab112a31c1be4ec642747d8ac", func := "ninepin/ninepinlaw12.BoundGrow", spec := "boundGrow", inPlace := ["math/bits.Add64"], unfollowed := true, recurses := true, apart := false }
def BoundGrowSaid : Prop := boundGrowRow.holds Try.pinned (OpenSpec.ofChange boundGrowSpec)

/-- ITS FALSE NEIGHBOUR: 'it returns false'. Refute it at one input. -/
def boundGrowWrong : ChangeSpec := { name := "boundGrow", fn := fun _ => fun
  | [d1, d2, d3] => { results := [.lit (.bool false)], args := [d1, d2, d3] }
  | _ => none }
def BoundGrowWrongFalsely : Prop := boundGrowRow.holds Try.pinned (OpenSpec.ofChange boundGrowWrong)

/-- 'ninepinlaw12.BoundTwice': WHATEVER THE INPUT: true; the input reads as it did. -/
def boundTwiceSpec : ChangeSpec := { name := "boundTwice", fn := fun _ => fun
  | [d1, d2, d3, d4, d5] => { results := [.lit (.bool true)], args := [d1, d2, d3, d4, d5] }
  | _ => none }
def boundTwiceRow : OpenClaim := { program := "ytegmfmonkaimcaa", sum := "33c41ae9653ddbe9538dc03da9363b568fd15f0ab112a31c1be4ec642747d8ac", func := "ninepin/ninepinlaw12.BoundTwice", spec := "boundTwice", inPlace := ["math/bits.Add64"], unfollowed := true, recurses := true, apart := false }
def BoundTwiceSaid : Prop := boundTwiceRow.holds Try.pinned (OpenSpec.ofChange boundTwiceSpec)

/-- ITS FALSE NEIGHBOUR: 'it returns false'. Refute it at one input. -/
def boundTwiceWrong : ChangeSpec := { name := "boundTwice", fn := fun _ => fun
  | [d1, d2, d3, d4, d5] => { results := [.lit (.bool false)], args := [d1, d2, d3, d4, d5] }
  | _ => none }
def BoundTwiceWrongFalsely : Prop := boundTwiceRow.holds Try.pinned (OpenSpec.ofChange boundTwiceWrong)

/-- 'ninepinlaw12.BoundLeast': WHATEVER THE INPUT: true; the input reads as it did. -/
def boundLeastSpec : ChangeSpec := { name := "boundLeast", fn := fun _ => fun
  | [d1, d2, d3, d4] => { results := [.lit (.bool true)], args := [d1, d2, d3, d4] }
  | _ => none }
def boundLeastRow : OpenClaim := { program := "ytegmfmonkaimcaa", sum := "33c41ae9653ddbe9538dc03da9363b568fd15f0ab112a31c1be4ec642747d8ac", func := "ninepin/ninepinlaw12.BoundLeast", spec := "boundLeast", inPlace := ["math/bits.Add64"], unfollowed := true, recurses := true, apart := false }
def BoundLeastSaid : Prop := boundLeastRow.holds Try.pinned (OpenSpec.ofChange boundLeastSpec)

/-- ITS FALSE NEIGHBOUR: 'it returns false'. Refute it at one input. -/
def boundLeastWrong : ChangeSpec := { name := "boundLeast", fn := fun _ => fun
  | [d1, d2, d3, d4] => { results := [.lit (.bool false)], args := [d1, d2, d3, d4] }
  | _ => none }
def BoundLeastWrongFalsely : Prop := boundLeastRow.holds Try.pinned (OpenSpec.ofChange boundLeastWrong)

/-- 'ninepinlaw12.BoundMeet': WHATEVER THE INPUT: true; the input reads as it did. -/
def boundMeetSpec : ChangeSpec := { name := "boundMeet", fn := fun _ => fun
  | [d1, d2] => { results := [.lit (.bool true)], args := [d1, d2] }
  | _ => none }
def boundMeetRow : OpenClaim := { program := "ytegmfmonkaimcaa", sum := "33c41ae9653ddbe9538dc03da9363b568fd15f0ab112a31c1be4ec642747d8ac", func := "ninepin/ninepinlaw12.BoundMeet", spec := "boundMeet", inPlace := ["math/bits.Add64"], unfollowed := true, recurses := true, apart := false }
def BoundMeetSaid : Prop := boundMeetRow.holds Try.pinned (OpenSpec.ofChange boundMeetSpec)

/-- ITS FALSE NEIGHBOUR: 'it returns false'. Refute it at one input. -/
def boundMeetWrong : ChangeSpec := { name := "boundMeet", fn := fun _ => fun
  | [d1, d2] => { results := [.lit (.bool false)], args := [d1, d2] }
  | _ => none }
def BoundMeetWrongFalsely : Prop := boundMeetRow.holds Try.pinned (OpenSpec.ofChange boundMeetWrong)

/-- 'ninepinlaw12.BoundShared': WHATEVER THE INPUT: true; the input reads as it did. -/
def boundSharedSpec : ChangeSpec := { name := "boundShared", fn := fun _ => fun
  | [d1, d2] => { results := [.lit (.bool true)], args := [d1, d2] }
  | _ => none }
def boundSharedRow : OpenClaim := { program := "ytegmfmonkaimcaa", sum := "33c41ae9653ddbe9538dc03da9363b568fd15f0ab112a31c1be4ec642747d8ac", func := "ninepin/ninepinlaw12.BoundShared", spec := "boundShared", inPlace := ["math/bits.Add64"], unfollowed := true, recurses := true, apart := false }
def BoundSharedSaid : Prop := boundSharedRow.holds Try.pinned (OpenSpec.ofChange boundSharedSpec)

/-- ITS FALSE NEIGHBOUR: 'it returns false'. Refute it at one input. -/
def boundSharedWrong : ChangeSpec := { name := "boundShared", fn := fun _ => fun
  | [d1, d2] => { results := [.lit (.bool false)], args := [d1, d2] }
  | _ => none }
def BoundSharedWrongFalsely : Prop := boundSharedRow.holds Try.pinned (OpenSpec.ofChange boundSharedWrong)

/-- 'ninepinlaw12.BoundWays': WHATEVER THE INPUT: true; the input reads as it did. -/
def boundWaysSpec : ChangeSpec := { name := "boundWays", fn := fun _ => fun
  | [d1, d2, d3, d4] => { results := [.lit (.bool true)], args := [d1, d2, d3, d4] }
  | _ => none }
def boundWaysRow : OpenClaim := { program := "ytegmfmonkaimcaa", sum := "33c41ae9653ddbe9538dc03da9363b568fd15f0ab112a31c1be4ec642747d8ac", func := "ninepin/ninepinlaw12.BoundWays", spec := "boundWays", inPlace := ["math/bits.Add64"], unfollowed := true, recurses := true, apart := false }
def BoundWaysSaid : Prop := boundWaysRow.holds Try.pinned (OpenSpec.ofChange boundWaysSpec)

/-- ITS FALSE NEIGHBOUR: 'it returns false'. Refute it at one input. -/
def boundWaysWrong : ChangeSpec := { name := "boundWays", fn := fun _ => fun
  | [d1, d2, d3, d4] => { results := [.lit (.bool false)], args := [d1, d2, d3, d4] }
  | _ => none }
def BoundWaysWrongFalsely : Prop := boundWaysRow.holds Try.pinned (OpenSpec.ofChange boundWaysWrong)

/- THE SECOND FORM. 'bulk': how many values and letters a reading holds, each counted each time it is reached (what is shared counts as often as it is met; a slice's spare places count too). A statement '..UptoSaid' is the law's where the arguments, and the package variables that the reading takes, are together of bulk at most 1048576: NARROWER than '..Said'. Prove '..Said' where nothing that the law and all that it calls make is longer than what came in: it says more and counts as full. Else prove '..UptoSaid'. A law counts once. -/
mutual
def uptoBulk {H : Type} : DataW H → Nat
  | .lit (.string bytes) => bytes.length + 1
  | .lit _ => 1
  | .nil => 1
  | .ptr d => uptoBulk d + 1
  | .slice elems spare => uptoBulkAll elems + uptoBulkAll spare + 1
  | .agg parts => uptoBulkAll parts + 1
  | .iface _ d => uptoBulk d + 1
  | .map entries => uptoBulkEntries entries + 1
  | .held _ => 1
def uptoBulkAll {H : Type} : List (DataW H) → Nat
  | [] => 0
  | d :: r => uptoBulk d + uptoBulkAll r
def uptoBulkEntries {H : Type} : List (Lit × DataW H) → Nat
  | [] => 0
  | x :: r => uptoBulkEntry x + uptoBulkEntries r
def uptoBulkEntry {H : Type} : Lit × DataW H → Nat
  | (.string bytes, d) => bytes.length + uptoBulk d + 1
  | (_, d) => uptoBulk d + 1
 end
def uptoSmall : (H : Type) → List (DataW H) → Bool := fun _ ds => decide (uptoBulkAll ds ≤ 1048576)
def OpenSpec.upto (s : _root_.Go.ChangeSpec) : _root_.Go.OpenSpec := { _root_.Go.OpenSpec.ofChange s with cond := some uptoSmall }

/-- 'ninepinlaw12.BoundOf', WHERE WHAT IT READS IS OF BULK AT MOST 1048576: true; the input reads as it did. -/
def boundOfUptoRow : OpenClaim := { program := "ytegmfmonkaimcaa", sum := "33c41ae9653ddbe9538dc03da9363b568fd15f0ab112a31c1be4ec642747d8ac", func := "ninepin/ninepinlaw12.BoundOf", spec := "boundOf", inPlace := ["math/bits.Add64"], unfollowed := true, recurses := true, apart := false, narrowed := true }
def BoundOfUptoSaid : Prop := boundOfUptoRow.holds Try.pinned (OpenSpec.upto boundOfSpec)

/-- 'ninepinlaw12.BoundHit', WHERE WHAT IT READS IS OF BULK AT MOST 1048576: true; the input reads as it did. -/
def boundHitUptoRow : OpenClaim := { program := "ytegmfmonkaimcaa", sum := "33c41ae9653ddbe9538dc03da9363b568fd15f0ab112a31c1be4ec642747d8ac", func := "ninepin/ninepinlaw12.BoundHit", spec := "boundHit", inPlace := ["math/bits.Add64"], unfollowed := true, recurses := true, apart := false, narrowed := true }
def BoundHitUptoSaid : Prop := boundHitUptoRow.holds Try.pinned (OpenSpec.upto boundHitSpec)

/-- 'ninepinlaw12.BoundGrow', WHERE WHAT IT READS IS OF BULK AT MOST 1048576: true; the input reads as it did. -/
def boundGrowUptoRow : OpenClaim := { program := "ytegmfmonkaimcaa", sum := "33c41ae9653ddbe9538dc03da9363b568fd15f0ab112a31c1be4ec642747d8ac", func := "ninepin/ninepinlaw12.BoundGrow", spec := "boundGrow", inPlace := ["math/bits.Add64"], unfollowed := true, recurses := true, apart := false, narrowed := true }
def BoundGrowUptoSaid : Prop := boundGrowUptoRow.holds Try.pinned (OpenSpec.upto boundGrowSpec)

/-- 'ninepinlaw12.BoundTwice', WHERE WHAT IT READS IS OF BULK AT MOST 1048576: true; the input reads as it did. -/
def boundTwiceUptoRow : OpenClaim := { program := "ytegmfmonkaimcaa", sum := "33c41ae9653ddbe9538dc03da9363b568fd15f0ab112a31c1be4ec642747d8ac", func := "ninepin/ninepinlaw12.BoundTwice", spec := "boundTwice", inPlace := ["math/bits.Add64"], unfollowed := true, recurses := true, apart := false, narrowed := true }
def BoundTwiceUptoSaid : Prop := boundTwiceUptoRow.holds Try.pinned (OpenSpec.upto boundTwiceSpec)

/-- 'ninepinlaw12.BoundLeast', WHERE WHAT IT READS IS OF BULK AT MOST 1048576: true; the input reads as it did. -/
def boundLeastUptoRow : OpenClaim := { program := "ytegmfmonkaimcaa", sum := "33c41ae9653ddbe9538dc03da9363b568fd15f0ab112a31c1be4ec642747d8ac", func := "ninepin/ninepinlaw12.BoundLeast", spec := "boundLeast", inPlace := ["math/bits.Add64"], unfollowed := true, recurses := true, apart := false, narrowed := true }
def BoundLeastUptoSaid : Prop := boundLeastUptoRow.holds Try.pinned (OpenSpec.upto boundLeastSpec)

/-- 'ninepinlaw12.BoundMeet', WHERE WHAT IT READS IS OF BULK AT MOST 1048576: true; the input reads as it did. -/
def boundMeetUptoRow : OpenClaim := { program := "ytegmfmonkaimcaa", sum := "33c41ae9653ddbe9538dc03da9363b568fd15f0ab112a31c1be4ec642747d8ac", func := "ninepin/ninepinlaw12.BoundMeet", spec := "boundMeet", inPlace := ["math/bits.Add64"], unfollowed := true, recurses := true, apart := false, narrowed := true }
def BoundMeetUptoSaid : Prop := boundMeetUptoRow.holds Try.pinned (OpenSpec.upto boundMeetSpec)

/-- 'ninepinlaw12.BoundShared', WHERE WHAT IT READS IS OF BULK AT MOST 1048576: true; the input reads as it did. -/
def boundSharedUptoRow : OpenClaim := { program := "ytegmfmonkaimcaa", sum := "33c41ae9653ddbe9538dc03da9363b568fd15f0ab112a31c1be4ec642747d8ac", func := "ninepin/ninepinlaw12.BoundShared", spec := "boundShared", inPlace := ["math/bits.Add64"], unfollowed := true, recurses := true, apart := false, narrowed := true }
def BoundSharedUptoSaid : Prop := boundSharedUptoRow.holds Try.pinned (OpenSpec.upto boundSharedSpec)

/-- 'ninepinlaw12.BoundWays', WHERE WHAT IT READS IS OF BULK AT MOST 1048576: true; the input reads as it did. -/
def boundWaysUptoRow : OpenClaim := { program := "ytegmfmonkaimcaa", sum := "33c41ae9653ddbe9538dc03da9363b568fd15f0ab112a31c1be4ec642747d8ac", func := "ninepin/ninepinlaw12.BoundWays", spec := "boundWays", inPlace := ["math/bits.Add64"], unfollowed := true, recurses := true, apart := false, narrowed := true }
def BoundWaysUptoSaid : Prop := boundWaysUptoRow.holds Try.pinned (OpenSpec.upto boundWaysSpec)

end Rows
end Go.Proofs.Ytegmfmonkaimcaa
