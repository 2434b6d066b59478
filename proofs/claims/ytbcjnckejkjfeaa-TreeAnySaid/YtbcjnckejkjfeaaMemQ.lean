/- A stretch of a block that is known, read as one value. No condition. -/
import Derived.Test.YtbcjnckejkjfeaaRegI
namespace Go.NP
open Go Go.RowKit
set_option linter.unusedSimpArgs false
set_option linter.unusedVariables false
theorem At'.step {w w' : World} {b k : Nat} {l : List Value} (h : At' w b k l) (hb : b < w.heap.size) (hS : Below w.heap.size w w') : At' w' b k l := fun j v hv => by
  rw [(bcell hS).1 b _ hb]; exact h j v hv
section
variable {P : Program} {Q : Exit → Act → World → Prop} {ls es : List Nat} {Te : List (Nat × Option Tmp) → Act → Prop} {ops : Array Oper} {o : Oper} {r : List Oper} {acc : List (Nat × Option Tmp)} {a : Act} {i g k : Nat} {W w : World} {al : Al} {l cs : List Value} {T ty : TypeId} {x y : Operand} {d : TypeDesc}
theorem SeqO.at (ho : o.op = .load ty x) (hx : a.eval x = .pointer (some ⟨g, k, none⟩)) (hg : g < W.heap.size) (hB : At' W g k l) (hu : P.underlying ty = some d) (hd : (match d with | .struct _ | .array _ _ => true | _ => false) = true)
    (hsz : (P.info? ty).map (·.size) = some l.length) (hi : (!ls.contains i && !es.contains i && al.all fun e => e.1 != i) = true) (hw : Region.wanted o (yielded ops a.tmps) = true)
    (h2 : SeqO P ops Q (SAl W al) ls es Te (i + 1) r acc (a.put o.dst (.agg l.toArray))) : SeqO P ops Q (SAl W al) ls es Te i (o :: r) acc a :=
  SeqO.val hi hw (fun w hb => run_load_part ho hx (hB.step hg hb) hu hd hsz) h2
theorem wpL_at (ho : o.op = .load ty x) (hx : a.eval x = .pointer (some ⟨g, k, none⟩)) (hB : At' w g k l) (hu : P.underlying ty = some d) (hd : (match d with | .struct _ | .array _ _ => true | _ => false) = true)
    (hsz : (P.info? ty).map (·.size) = some l.length) (hw : Region.wanted o (yielded ops a.tmps) = true) (h : wpList P ops Q r (a.put o.dst (.agg l.toArray)) w) : wpList P ops Q (o :: r) a w :=
  wpL_val hw (run_load_part ho hx hB hu hd hsz) h
end
end Go.NP
