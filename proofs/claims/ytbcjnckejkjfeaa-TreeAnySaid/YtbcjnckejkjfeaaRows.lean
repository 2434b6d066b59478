/-
  No cell of these rows narrows 'for every input' (looked for: loops, veiled, ifaces, maps, wideKeys, modest, calm, conditions, laid).
  DERIVED. THE GIVEN ROWS OF THIS SEAT. 5 by the template 'for every input the law returns true; each argument reads behind the call as it read before'; 0 by the template 'total and deterministic' (their statements: YtbcjnckejkjfeaaTotals.lean).
  GIVEN WITH THE SEED: the statements are not yours to turn. If you find one false, say at which input.
  Laid BY PROGRAM, IN A SANDBOX (cutbox-rows.mjs): the forced cells as the released guide's own fill.sh prints them over the translation dd72691ecaeb3832… (all of the seat's roots in one cut). By AI agents, Wed Nov 11 2026. No macro, syntax, notation, axiom, sorry.
-/
import Derived.Test.YtbcjnckejkjfeaaChecked
import GoSem.Claim
import GoSem.ClaimJoined
import GoSem.ClaimMapViews
import Derived.JoinedTies
import Derived.KernelRfl
namespace Go.Proofs.Ytbcjnckejkjfeaa
/- THE CELL 'sum', in the pinned program and in every row, IS THE sha256 OF THE DUMP (.gsa) THAT YtbcjnckejkjfeaaProg.lean LOADS. Nothing in Lean hashes anything: it is a label: what it is worth is what the hold of that sum in a sandbox is worth. -/
noncomputable def Try.pinned : Pinned := { name := "ytbcjnckejkjfeaa", sum := "dd72691ecaeb3832c448972d00687ac031c884a6e895e219e528b5b9080651c5", checked := Try.checked }
namespace Rows
def none {H : Type} : Left H := { results := [], args := [] }

/-- 'ninepinlaw13.TreeBoth': WHATEVER THE INPUT: true; the input reads as it did. -/
def treeBothSpec : ChangeSpec := { name := "treeBoth", fn := fun _ => fun
  | [d1, d2] => { results := [.lit (.bool true)], args := [d1, d2] }
  | _ => none }
def treeBothRow : OpenClaim := { program := "ytbcjnckejkjfeaa", sum := "dd72691ecaeb3832c448972d00687ac031c884a6e895e219e528b5b9080651c5", func := "ninepin/ninepinlaw13.TreeBoth", spec := "treeBoth", unfollowed := true, recurses := true, apart := false }
def TreeBothSaid : Prop := treeBothRow.holds Try.pinned (OpenSpec.ofChange treeBothSpec)

/-- ITS FALSE NEIGHBOUR: 'it returns false'. Refute it at one input. -/
def treeBothWrong : ChangeSpec := { name := "treeBoth", fn := fun _ => fun
  | [d1, d2] => { results := [.lit (.bool false)], args := [d1, d2] }
  | _ => none }
def TreeBothWrongFalsely : Prop := treeBothRow.holds Try.pinned (OpenSpec.ofChange treeBothWrong)

/-- 'ninepinlaw13.TreeEmpty': WHATEVER THE INPUT: true; the input reads as it did. -/
def treeEmptySpec : ChangeSpec := { name := "treeEmpty", fn := fun _ => fun
  | [d1, d2] => { results := [.lit (.bool true)], args := [d1, d2] }
  | _ => none }
def treeEmptyRow : OpenClaim := { program := "ytbcjnckejkjfeaa", sum := "dd72691ecaeb3832c448972d00687ac031c884a6e895e219e528b5b9080651c5", func := "ninepin/ninepinlaw13.TreeEmpty", spec := "treeEmpty", unfollowed := true, recurses := true, apart := false }
def TreeEmptySaid : Prop := treeEmptyRow.holds Try.pinned (OpenSpec.ofChange treeEmptySpec)

/-- ITS FALSE NEIGHBOUR: 'it returns false'. Refute it at one input. -/
def treeEmptyWrong : ChangeSpec := { name := "treeEmpty", fn := fun _ => fun
  | [d1, d2] => { results := [.lit (.bool false)], args := [d1, d2] }
  | _ => none }
def TreeEmptyWrongFalsely : Prop := treeEmptyRow.holds Try.pinned (OpenSpec.ofChange treeEmptyWrong)

/-- 'ninepinlaw13.TreeAny': WHATEVER THE INPUT: true; the input reads as it did. -/
def treeAnySpec : ChangeSpec := { name := "treeAny", fn := fun _ => fun
  | [d1, d2, d3] => { results := [.lit (.bool true)], args := [d1, d2, d3] }
  | _ => none }
def treeAnyRow : OpenClaim := { program := "ytbcjnckejkjfeaa", sum := "dd72691ecaeb3832c448972d00687ac031c884a6e895e219e528b5b9080651c5", func := "ninepin/ninepinlaw13.TreeAny", spec := "treeAny", inPlace := ["math/bits.Add64"], unfollowed := true, recurses := true, apart := false }
def TreeAnySaid : Prop := treeAnyRow.holds Try.pinned (OpenSpec.ofChange treeAnySpec)

/-- ITS FALSE NEIGHBOUR: 'it returns false'. Refute it at one input. -/
def treeAnyWrong : ChangeSpec := { name := "treeAny", fn := fun _ => fun
  | [d1, d2, d3] => { results := [.lit (.bool false)], args := [d1, d2, d3] }
  | _ => none }
def TreeAnyWrongFalsely : Prop := treeAnyRow.holds Try.pinned (OpenSpec.ofChange treeAnyWrong)

/-- 'ninepinlaw13.TreeSure': WHATEVER THE INPUT: true; the input reads as it did. -/
def treeSureSpec : ChangeSpec := { name := "treeSure", fn := fun _ => fun
  | [d1, d2, d3, d4] => { results := [.lit (.bool true)], args := [d1, d2, d3, d4] }
  | _ => none }
def treeSureRow : OpenClaim := { program := "ytbcjnckejkjfeaa", sum := "dd72691ecaeb3832c448972d00687ac031c884a6e895e219e528b5b9080651c5", func := "ninepin/ninepinlaw13.TreeSure", spec := "treeSure", inPlace := ["math/bits.Add64"], unfollowed := true, recurses := true, apart := false }
def TreeSureSaid : Prop := treeSureRow.holds Try.pinned (OpenSpec.ofChange treeSureSpec)

/-- ITS FALSE NEIGHBOUR: 'it returns false'. Refute it at one input. -/
def treeSureWrong : ChangeSpec := { name := "treeSure", fn := fun _ => fun
  | [d1, d2, d3, d4] => { results := [.lit (.bool false)], args := [d1, d2, d3, d4] }
  | _ => none }
def TreeSureWrongFalsely : Prop := treeSureRow.holds Try.pinned (OpenSpec.ofChange treeSureWrong)

/-- 'ninepinlaw13.TreeNone': WHATEVER THE INPUT: true; the input reads as it did. -/
def treeNoneSpec : ChangeSpec := { name := "treeNone", fn := fun _ => fun
  | [d1, d2] => { results := [.lit (.bool true)], args := [d1, d2] }
  | _ => none }
def treeNoneRow : OpenClaim := { program := "ytbcjnckejkjfeaa", sum := "dd72691ecaeb3832c448972d00687ac031c884a6e895e219e528b5b9080651c5", func := "ninepin/ninepinlaw13.TreeNone", spec := "treeNone", inPlace := ["math/bits.Add64"], unfollowed := true, recurses := true, apart := false }
def TreeNoneSaid : Prop := treeNoneRow.holds Try.pinned (OpenSpec.ofChange treeNoneSpec)

/-- ITS FALSE NEIGHBOUR: 'it returns false'. Refute it at one input. -/
def treeNoneWrong : ChangeSpec := { name := "treeNone", fn := fun _ => fun
  | [d1, d2] => { results := [.lit (.bool false)], args := [d1, d2] }
  | _ => none }
def TreeNoneWrongFalsely : Prop := treeNoneRow.holds Try.pinned (OpenSpec.ofChange treeNoneWrong)

/- THE SECOND FORM. 'bulk': how many values and letters a reading holds, each counted each time it is reached (what is shared counts as often as it is met; a slice's spare places count too). A statement '..UptoSaid' is the law's where the arguments, and the package variables that the reading takes, are together of bulk at most 1048576: NARROWER than '..Said'. Prove '..Said' where nothing that the law and all that it calls make is longer than what came in: it says more and counts as full. Else prove '..UptoSaid'. A law counts once. -/
mutual
def uptoBulk {H : Type} : DataW H → Nat
  | .lit (.string bytes) => bytes.length + 1
  | .lit _ => 1
  | .nil => 1
  | .ptr d => uptoBulk d + 1
  | .slice elems spare => uptoBulkAll elems + uptoBulkAll spare + 1
  | .agg parts => uptoBulkAll parts + 1
  | .iface _ d => uptoBulk d + 1
  | .map entries => uptoBulkEntries entries + 1
  | .held _ => 1
def uptoBulkAll {H : Type} : List (DataW H) → Nat
  | [] => 0
  | d :: r => uptoBulk d + uptoBulkAll r
def uptoBulkEntries {H : Type} : List (Lit × DataW H) → Nat
  | [] => 0
  | x :: r => uptoBulkEntry x + uptoBulkEntries r
def uptoBulkEntry {H : Type} : Lit × DataW H → Nat
  | (.string bytes, d) => bytes.length + uptoBulk d + 1
  | (_, d) => uptoBulk d + 1
 end
def uptoSmall : (H : Type) → List (DataW H) → Bool := fun _ ds => decide (uptoBulkAll ds ≤ 1048576)
def OpenSpec.upto (s : _root_.Go.ChangeSpec) : _root_.Go.OpenSpec := { _root_.Go.OpenSpec.ofChange s with cond := some uptoSmall }

/-- 'ninepinlaw13.TreeBoth', WHERE WHAT IT READS IS OF BULK AT MOST 1048576: true; the input reads as it did. -/
def treeBothUptoRow : OpenClaim := { program := "ytbcjnckejkjfeaa", sum := "dd72691ecaeb3832c448972d00687ac031c884a6e895e219e528b5b9080651c5", func := "ninepin/ninepinlaw13.TreeBoth", spec := "treeBoth", unfollowed := true, recurses := true, apart := false, narrowed := true }
def TreeBothUptoSaid : Prop := treeBothUptoRow.holds Try.pinned (OpenSpec.upto treeBothSpec)

/-- 'ninepinlaw13.TreeEmpty', WHERE WHAT IT READS IS OF BULK AT MOST 1048576: true; the input reads as it did. -/
def treeEmptyUptoRow : OpenClaim := { program := "ytbcjnckejkjfeaa", sum := "dd72691ecaeb3832c448972d00687ac031c884a6e895e219e528b5b9080651c5", func := "ninepin/ninepinlaw13.TreeEmpty", spec := "treeEmpty", unfollowed := true, recurses := true, apart := false, narrowed := true }
def TreeEmptyUptoSaid : Prop := treeEmptyUptoRow.holds Try.pinned (OpenSpec.upto treeEmptySpec)

/-- 'ninepinlaw13.TreeAny', WHERE WHAT IT READS IS OF BULK AT MOST 1048576: true; the input reads as it did. -/
def treeAnyUptoRow : OpenClaim := { program := "ytbcjnckejkjfeaa", sum := "dd72691ecaeb3832c448972d00687ac031c884a6e895e219e528b5b9080651c5", func := "ninepin/ninepinlaw13.TreeAny", spec := "treeAny", inPlace := ["math/bits.Add64"], unfollowed := true, recurses := true, apart := false, narrowed := true }
def TreeAnyUptoSaid : Prop := treeAnyUptoRow.holds Try.pinned (OpenSpec.upto treeAnySpec)

/-- 'ninepinlaw13.TreeSure', WHERE WHAT IT READS IS OF BULK AT MOST 1048576: true; the input reads as it did. -/
def treeSureUptoRow : OpenClaim := { program := "ytbcjnckejkjfeaa", sum := "dd72691ecaeb3832c448972d00687ac031c884a6e895e219e528b5b9080651c5", func := "ninepin/ninepinlaw13.TreeSure", spec := "treeSure", inPlace := ["math/bits.Add64"], unfollowed := true, recurses := true, apart := false, narrowed := true }
def TreeSureUptoSaid : Prop := treeSureUptoRow.holds Try.pinned (OpenSpec.upto treeSureSpec)

/-- 'ninepinlaw13.TreeNone', WHERE WHAT IT READS IS OF BULK AT MOST 1048576: true; the input reads as it did. -/
def treeNoneUptoRow : OpenClaim := { program := "ytbcjnckejkjfeaa", sum := "dd72691ecaeb3832c448972d00687ac031c884a6e895e219e528b5b9080651c5", func := "ninepin/ninepinlaw13.TreeNone", spec := "treeNone", inPlace := ["math/bits.Add64"], unfollowed := true, recurses := true, apart := false, narrowed := true }
def TreeNoneUptoSaid : Prop := treeNoneUptoRow.holds Try.pinned (OpenSpec.upto treeNoneSpec)

end Rows
end Go.Proofs.Ytbcjnckejkjfeaa
