/-
  No cell of these rows narrows 'for every input' (looked for: loops, veiled, ifaces, maps, wideKeys, modest, calm, conditions, laid).
  DERIVED. THE GIVEN ROWS OF THIS SEAT. 5 by the template 'for every input the law returns true; each argument reads behind the call as it read before'; 0 by the template 'total and deterministic' (their statements: YtocelepohkbooaaTotals.lean).
  GIVEN WITH THE SEED: the statements are not yours to turn. If you find one false, say at which input.
  Laid BY PROGRAM, IN A SANDBOX (cutbox-rows.mjs): the forced cells as the released guide's own fill.sh prints them over the translation 19c2e501d0826f6e… (all of the seat's roots in one cut). By AI agents, Wed Nov 11 2026. No macro, syntax, notation, axiom, sorry.
-/
import Derived.Test.YtocelepohkbooaaChecked
import GoSem.Claim
import GoSem.ClaimJoined
import GoSem.ClaimMapViews
import Derived.JoinedTies
import Derived.KernelRfl
namespace Go.Proofs.Ytocelepohkbooaa
/- THE CELL 'sum', in the pinned program and in every row, IS THE sha256 OF THE DUMP (.gsa) THAT YtocelepohkbooaaProg.lean LOADS. Nothing in Lean hashes anything: it is a label: what it is worth is what the hold of that sum in a sandbox is worth. -/
noncomputable def Try.pinned : Pinned := { name := "ytocelepohkbooaa", sum := "19c2e501d0826f6e1cc29cd622da8e57e6f19ac08d635a1febf1049ee001eb94", checked := Try.checked }
namespace Rows
def none {H : Type} : Left H := { results := [], args := [] }

/-- 'ninepinlaw14.PairsSorted': WHATEVER THE INPUT: true; the input reads as it did. -/
def pairsSortedSpec : ChangeSpec := { name := "pairsSorted", fn := fun _ => fun
  | [d] => { results := [.lit (.bool true)], args := [d] }
  | _ => none }
def pairsSortedRow : OpenClaim := { program := "ytocelepohkbooaa", sum := "19c2e501d0826f6e1cc29cd622da8e57e6f19ac08d635a1febf1049ee001eb94", func := "ninepin/ninepinlaw14.PairsSorted", spec := "pairsSorted", unfollowed := true, recurses := true, apart := false }
def PairsSortedSaid : Prop := pairsSortedRow.holds Try.pinned (OpenSpec.ofChange pairsSortedSpec)

/-- ITS FALSE NEIGHBOUR: 'it returns false'. Refute it at one input. -/
def pairsSortedWrong : ChangeSpec := { name := "pairsSorted", fn := fun _ => fun
  | [d] => { results := [.lit (.bool false)], args := [d] }
  | _ => none }
def PairsSortedWrongFalsely : Prop := pairsSortedRow.holds Try.pinned (OpenSpec.ofChange pairsSortedWrong)

/-- 'ninepinlaw14.PairsDiff': WHATEVER THE INPUT: true; the input reads as it did. -/
def pairsDiffSpec : ChangeSpec := { name := "pairsDiff", fn := fun _ => fun
  | [d1, d2] => { results := [.lit (.bool true)], args := [d1, d2] }
  | _ => none }
def pairsDiffRow : OpenClaim := { program := "ytocelepohkbooaa", sum := "19c2e501d0826f6e1cc29cd622da8e57e6f19ac08d635a1febf1049ee001eb94", func := "ninepin/ninepinlaw14.PairsDiff", spec := "pairsDiff", unfollowed := true, recurses := true, apart := false }
def PairsDiffSaid : Prop := pairsDiffRow.holds Try.pinned (OpenSpec.ofChange pairsDiffSpec)

/-- ITS FALSE NEIGHBOUR: 'it returns false'. Refute it at one input. -/
def pairsDiffWrong : ChangeSpec := { name := "pairsDiff", fn := fun _ => fun
  | [d1, d2] => { results := [.lit (.bool false)], args := [d1, d2] }
  | _ => none }
def PairsDiffWrongFalsely : Prop := pairsDiffRow.holds Try.pinned (OpenSpec.ofChange pairsDiffWrong)

/-- 'ninepinlaw14.PairsIslands': WHATEVER THE INPUT: true; the input reads as it did. -/
def pairsIslandsSpec : ChangeSpec := { name := "pairsIslands", fn := fun _ => fun
  | [d1, d2] => { results := [.lit (.bool true)], args := [d1, d2] }
  | _ => none }
def pairsIslandsRow : OpenClaim := { program := "ytocelepohkbooaa", sum := "19c2e501d0826f6e1cc29cd622da8e57e6f19ac08d635a1febf1049ee001eb94", func := "ninepin/ninepinlaw14.PairsIslands", spec := "pairsIslands", unfollowed := true, recurses := true, apart := false }
def PairsIslandsSaid : Prop := pairsIslandsRow.holds Try.pinned (OpenSpec.ofChange pairsIslandsSpec)

/-- ITS FALSE NEIGHBOUR: 'it returns false'. Refute it at one input. -/
def pairsIslandsWrong : ChangeSpec := { name := "pairsIslands", fn := fun _ => fun
  | [d1, d2] => { results := [.lit (.bool false)], args := [d1, d2] }
  | _ => none }
def PairsIslandsWrongFalsely : Prop := pairsIslandsRow.holds Try.pinned (OpenSpec.ofChange pairsIslandsWrong)

/-- 'ninepinlaw14.PairsWhole': WHATEVER THE INPUT: true; the input reads as it did. -/
def pairsWholeSpec : ChangeSpec := { name := "pairsWhole", fn := fun _ => fun
  | [d1, d2] => { results := [.lit (.bool true)], args := [d1, d2] }
  | _ => none }
def pairsWholeRow : OpenClaim := { program := "ytocelepohkbooaa", sum := "19c2e501d0826f6e1cc29cd622da8e57e6f19ac08d635a1febf1049ee001eb94", func := "ninepin/ninepinlaw14.PairsWhole", spec := "pairsWhole", unfollowed := true, recurses := true, apart := false }
def PairsWholeSaid : Prop := pairsWholeRow.holds Try.pinned (OpenSpec.ofChange pairsWholeSpec)

/-- ITS FALSE NEIGHBOUR: 'it returns false'. Refute it at one input. -/
def pairsWholeWrong : ChangeSpec := { name := "pairsWhole", fn := fun _ => fun
  | [d1, d2] => { results := [.lit (.bool false)], args := [d1, d2] }
  | _ => none }
def PairsWholeWrongFalsely : Prop := pairsWholeRow.holds Try.pinned (OpenSpec.ofChange pairsWholeWrong)

/-- 'ninepinlaw14.PairsOne': WHATEVER THE INPUT: true; the input reads as it did. -/
def pairsOneSpec : ChangeSpec := { name := "pairsOne", fn := fun _ => fun
  | [d1, d2] => { results := [.lit (.bool true)], args := [d1, d2] }
  | _ => none }
def pairsOneRow : OpenClaim := { program := "ytocelepohkbooaa", sum := "19c2e501d0826f6e1cc29cd622da8e57e6f19ac08d635a1febf1049ee001eb94", func := "ninepin/ninepinlaw14.PairsOne", spec := "pairsOne", unfollowed := true, recurses := true, apart := false }
def PairsOneSaid : Prop := pairsOneRow.holds Try.pinned (OpenSpec.ofChange pairsOneSpec)

/-- ITS FALSE NEIGHBOUR: 'it returns false'. Refute it at one input. -/
def pairsOneWrong : ChangeSpec := { name := "pairsOne", fn := fun _ => fun
  | [d1, d2] => { results := [.lit (.bool false)], args := [d1, d2] }
  | _ => none }
def PairsOneWrongFalsely : Prop := pairsOneRow.holds Try.pinned (OpenSpec.ofChange pairsOneWrong)

/- THE SECOND FORM. 'bulk': how many values and letters a reading holds, each counted each time it is reached (what is shared counts as often as it is met; a slice's spare places count too). A statement '..UptoSaid' is the law's where the arguments, and the package variables that the reading takes, are together of bulk at most 1048576: NARROWER than '..Said'. Prove '..Said' where nothing that the law and all that it calls make is longer than what came in: it says more and counts as full. Else prove '..UptoSaid'. A law counts once. -/
mutual
def uptoBulk {H : Type} : DataW H → Nat
  | .lit (.string bytes) => bytes.length + 1
  | .lit _ => 1
  | .nil => 1
  | .ptr d => uptoBulk d + 1
  | .slice elems spare => uptoBulkAll elems + uptoBulkAll spare + 1
  | .agg parts => uptoBulkAll parts + 1
  | .iface _ d => uptoBulk d + 1
  | .map entries => uptoBulkEntries entries + 1
  | .held _ => 1
def uptoBulkAll {H : Type} : List (DataW H) → Nat
  | [] => 0
  | d :: r => uptoBulk d + uptoBulkAll r
def uptoBulkEntries {H : Type} : List (Lit × DataW H) → Nat
  | [] => 0
  | x :: r => uptoBulkEntry x + uptoBulkEntries r
def uptoBulkEntry {H : Type} : Lit × DataW H → Nat
  | (.string bytes, d) => bytes.length + uptoBulk d + 1
  | (_, d) => uptoBulk d + 1
 end
def uptoSmall : (H : Type) → List (DataW H) → Bool := fun _ ds => decide (uptoBulkAll ds ≤ 1048576)
def OpenSpec.upto (s : _root_.Go.ChangeSpec) : _root_.Go.OpenSpec := { _root_.Go.OpenSpec.ofChange s with cond := some uptoSmall }

/-- 'ninepinlaw14.PairsSorted', WHERE WHAT IT READS IS OF BULK AT MOST 1048576: true; the input reads as it did. -/
def pairsSortedUptoRow : OpenClaim := { program := "ytocelepohkbooaa", sum := "19c2e501d0826f6e1cc29cd622da8e57e6f19ac08d635a1febf1049ee001eb94", func := "ninepin/ninepinlaw14.PairsSorted", spec := "pairsSorted", unfollowed := true, recurses := true, apart := false, narrowed := true }
def PairsSortedUptoSaid : Prop := pairsSortedUptoRow.holds Try.pinned (OpenSpec.upto pairsSortedSpec)

/-- 'ninepinlaw14.PairsDiff', WHERE WHAT IT READS IS OF BULK AT MOST 1048576: true; the input reads as it did. -/
def pairsDiffUptoRow : OpenClaim := { program := "ytocelepohkbooaa", sum := "19c2e501d0826f6e1cc29cd622da8e57e6f19ac08d635a1febf1049ee001eb94", func := "ninepin/ninepinlaw14.PairsDiff", spec := "pairsDiff", unfollowed := true, recurses := true, apart := false, narrowed := true }
def PairsDiffUptoSaid : Prop := pairsDiffUptoRow.holds Try.pinned (OpenSpec.upto pairsDiffSpec)

/-- 'ninepinlaw14.PairsIslands', WHERE WHAT IT READS IS OF BULK AT MOST 1048576: true; the input reads as it did. -/
def pairsIslandsUptoRow : OpenClaim := { program := "ytocelepohkbooaa", sum := "19c2e501d0826f6e1cc29cd622da8e57e6f19ac08d635a1febf1049ee001eb94", func := "ninepin/ninepinlaw14.PairsIslands", spec := "pairsIslands", unfollowed := true, recurses := true, apart := false, narrowed := true }
def PairsIslandsUptoSaid : Prop := pairsIslandsUptoRow.holds Try.pinned (OpenSpec.upto pairsIslandsSpec)

/-- 'ninepinlaw14.PairsWhole', WHERE WHAT IT READS IS OF BULK AT MOST 1048576: true; the input reads as it did. -/
def pairsWholeUptoRow : OpenClaim := { program := "ytocelepohkbooaa", sum := "19c2e501d0826f6e1cc29cd622da8e57e6f19ac08d635a1febf1049ee001eb94", func := "ninepin/ninepinlaw14.PairsWhole", spec := "pairsWhole", unfollowed := true, recurses := true, apart := false, narrowed := true }
def PairsWholeUptoSaid : Prop := pairsWholeUptoRow.holds Try.pinned (OpenSpec.upto pairsWholeSpec)

/-- 'ninepinlaw14.PairsOne', WHERE WHAT IT READS IS OF BULK AT MOST 1048576: true; the input reads as it did. -/
def pairsOneUptoRow : OpenClaim := { program := "ytocelepohkbooaa", sum := "19c2e501d0826f6e1cc29cd622da8e57e6f19ac08d635a1febf1049ee001eb94", func := "ninepin/ninepinlaw14.PairsOne", spec := "pairsOne", unfollowed := true, recurses := true, apart := false, narrowed := true }
def PairsOneUptoSaid : Prop := pairsOneUptoRow.holds Try.pinned (OpenSpec.upto pairsOneSpec)

end Rows
end Go.Proofs.Ytocelepohkbooaa
