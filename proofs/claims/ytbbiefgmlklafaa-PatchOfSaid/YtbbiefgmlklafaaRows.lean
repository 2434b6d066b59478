/-
  No cell of these rows narrows 'for every input' (looked for: loops, veiled, ifaces, maps, wideKeys, modest, calm, conditions, laid).
  DERIVED. THE GIVEN ROWS OF THIS SEAT. 3 by the template 'for every input the law returns true; each argument reads behind the call as it read before'; 0 by the template 'total and deterministic' (their statements: YtbbiefgmlklafaaTotals.lean).
  GIVEN WITH THE SEED: the statements are not yours to turn. If you find one false, say at which input.
  Laid BY PROGRAM, IN A SANDBOX (cutbox-rows.mjs): the forced cells as the released guide's own fill.sh prints them over the translation c3855e4fd987abbe… (all of the seat's roots in one cut). By AI agents, Wed Nov 11 2026. No macro, syntax, notation, axiom, sorry.
-/
import Derived.Test.YtbbiefgmlklafaaChecked
import GoSem.Claim
import GoSem.ClaimJoined
import GoSem.ClaimMapViews
import Derived.JoinedTies
import Derived.KernelRfl
namespace Go.Proofs.Ytbbiefgmlklafaa
/- THE CELL 'sum', in the pinned program and in every row, IS THE sha256 OF THE DUMP (.gsa) THAT YtbbiefgmlklafaaProg.lean LOADS. Nothing in Lean hashes anything: it is a label: what it is worth is what the hold of that sum in a sandbox is worth. -/
noncomputable def Try.pinned : Pinned := { name := "ytbbiefgmlklafaa", sum := "c3855e4fd987abbe29993a61f615fb3aaf97d36b52f25f7a107d878b7306fcc3", checked := Try.checked }
namespace Rows
def none {H : Type} : Left H := { results := [], args := [] }

/-- 'ninepinlaw20.PatchOf': WHATEVER THE INPUT: true; the input reads as it did. -/
def patchOfSpec : ChangeSpec := { name := "patchOf", fn := fun _ => fun
  | [d] => { results := [.lit (.bool true)], args := [d] }
  | _ => none }
def patchOfRow : OpenClaim := { program := "ytbbiefgmlklafaa", sum := "c3855e4fd987abbe29993a61f615fb3aaf97d36b52f25f7a107d878b7306fcc3", func := "ninepin/ninepinlaw20.PatchOf", spec := "patchOf", inPlace := ["math/bits.Add64"], unfollowed := true, recurses := true, plainKeys := false, apart := false }
def PatchOfSaid : Prop := patchOfRow.holds Try.pinned (OpenSpec.ofChange patchOfSpec)

/-- ITS FALSE NEIGHBOUR: 'it returns false'. Refute it at one input. -/
def patchOfWrong : ChangeSpec := { name := "patchOf", fn := fun _ => fun
  | [d] => { results := [.lit (.bool false)], args := [d] }
  | _ => none }
def PatchOfWrongFalsely : Prop := patchOfRow.holds Try.pinned (OpenSpec.ofChange patchOfWrong)

/-- 'ninepinlaw20.PatchSome': WHATEVER THE INPUT: true; the input reads as it did. -/
def patchSomeSpec : ChangeSpec := { name := "patchSome", fn := fun _ => fun
  | [d] => { results := [.lit (.bool true)], args := [d] }
  | _ => none }
def patchSomeRow : OpenClaim := { program := "ytbbiefgmlklafaa", sum := "c3855e4fd987abbe29993a61f615fb3aaf97d36b52f25f7a107d878b7306fcc3", func := "ninepin/ninepinlaw20.PatchSome", spec := "patchSome", inPlace := ["math/bits.Add64"], unfollowed := true, recurses := true, plainKeys := false, apart := false }
def PatchSomeSaid : Prop := patchSomeRow.holds Try.pinned (OpenSpec.ofChange patchSomeSpec)

/-- ITS FALSE NEIGHBOUR: 'it returns false'. Refute it at one input. -/
def patchSomeWrong : ChangeSpec := { name := "patchSome", fn := fun _ => fun
  | [d] => { results := [.lit (.bool false)], args := [d] }
  | _ => none }
def PatchSomeWrongFalsely : Prop := patchSomeRow.holds Try.pinned (OpenSpec.ofChange patchSomeWrong)

/-- 'ninepinlaw20.PatchMoved': WHATEVER THE INPUT: true; the input reads as it did. -/
def patchMovedSpec : ChangeSpec := { name := "patchMoved", fn := fun _ => fun
  | [d1, d2] => { results := [.lit (.bool true)], args := [d1, d2] }
  | _ => none }
def patchMovedRow : OpenClaim := { program := "ytbbiefgmlklafaa", sum := "c3855e4fd987abbe29993a61f615fb3aaf97d36b52f25f7a107d878b7306fcc3", func := "ninepin/ninepinlaw20.PatchMoved", spec := "patchMoved", inPlace := ["math/bits.Add64"], unfollowed := true, recurses := true, plainKeys := false, apart := false }
def PatchMovedSaid : Prop := patchMovedRow.holds Try.pinned (OpenSpec.ofChange patchMovedSpec)

/-- ITS FALSE NEIGHBOUR: 'it returns false'. Refute it at one input. -/
def patchMovedWrong : ChangeSpec := { name := "patchMoved", fn := fun _ => fun
  | [d1, d2] => { results := [.lit (.bool false)], args := [d1, d2] }
  | _ => none }
def PatchMovedWrongFalsely : Prop := patchMovedRow.holds Try.pinned (OpenSpec.ofChange patchMovedWrong)

/- THE SECOND FORM. 'bulk': how many values and letters a reading holds, each counted each time it is reached (what is shared counts as often as it is met; a slice's spare places count too). A statement '..UptoSaid' is the law's where the arguments, and the package variables that the reading takes, are together of bulk at most 1048576: NARROWER than '..Said'. Prove '..Said' where nothing that the law and all that it calls make is longer than what came in: it says more and counts as full. Else prove '..UptoSaid'. A law counts once. -/
mutual
def uptoBulk {H : Type} : DataW H → Nat
  | .lit (.string bytes) => bytes.length + 1
  | .lit _ => 1
  | .nil => 1
  | .ptr d => uptoBulk d + 1
  | .slice elems spare => uptoBulkAll elems + uptoBulkAll spare + 1
  | .agg parts => uptoBulkAll parts + 1
  | .iface _ d => uptoBulk d + 1
  | .map entries => uptoBulkEntries entries + 1
  | .held _ => 1
def uptoBulkAll {H : Type} : List (DataW H) → Nat
  | [] => 0
  | d :: r => uptoBulk d + uptoBulkAll r
def uptoBulkEntries {H : Type} : List (Lit × DataW H) → Nat
  | [] => 0
  | x :: r => uptoBulkEntry x + uptoBulkEntries r
def uptoBulkEntry {H : Type} : Lit × DataW H → Nat
  | (.string bytes, d) => bytes.length + uptoBulk d + 1
  | (_, d) => uptoBulk d + 1
 end
def uptoSmall : (H : Type) → List (DataW H) → Bool := fun _ ds => decide (uptoBulkAll ds ≤ 1048576)
def OpenSpec.upto (s : _root_.Go.ChangeSpec) : _root_.Go.OpenSpec := { _root_.Go.OpenSpec.ofChange s with cond := some uptoSmall }

/-- 'ninepinlaw20.PatchOf', WHERE WHAT IT READS IS OF BULK AT MOST 1048576: true; the input reads as it did. -/
def patchOfUptoRow : OpenClaim := { program := "ytbbiefgmlklafaa", sum := "c3855e4fd987abbe29993a61f615fb3aaf97d36b52f25f7a107d878b7306fcc3", func := "ninepin/ninepinlaw20.PatchOf", spec := "patchOf", inPlace := ["math/bits.Add64"], unfollowed := true, recurses := true, plainKeys := false, apart := false, narrowed := true }
def PatchOfUptoSaid : Prop := patchOfUptoRow.holds Try.pinned (OpenSpec.upto patchOfSpec)

/-- 'ninepinlaw20.PatchSome', WHERE WHAT IT READS IS OF BULK AT MOST 1048576: true; the input reads as it did. -/
def patchSomeUptoRow : OpenClaim := { program := "ytbbiefgmlklafaa", sum := "c3855e4fd987abbe29993a61f615fb3aaf97d36b52f25f7a107d878b7306fcc3", func := "ninepin/ninepinlaw20.PatchSome", spec := "patchSome", inPlace := ["math/bits.Add64"], unfollowed := true, recurses := true, plainKeys := false, apart := false, narrowed := true }
def PatchSomeUptoSaid : Prop := patchSomeUptoRow.holds Try.pinned (OpenSpec.upto patchSomeSpec)

/-- 'ninepinlaw20.PatchMoved', WHERE WHAT IT READS IS OF BULK AT MOST 1048576: true; the input reads as it did. -/
def patchMovedUptoRow : OpenClaim := { program := "ytbbiefgmlklafaa", sum := "c3855e4fd987abbe29993a61f615fb3aaf97d36b52f25f7a107d878b7306fcc3", func := "ninepin/ninepinlaw20.PatchMoved", spec := "patchMoved", inPlace := ["math/bits.Add64"], unfollowed := true, recurses := true, plainKeys := false, apart := false, narrowed := true }
def PatchMovedUptoSaid : Prop := patchMovedUptoRow.holds Try.pinned (OpenSpec.upto patchMovedSpec)

end Rows
end Go.Proofs.Ytbbiefgmlklafaa
