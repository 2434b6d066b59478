/- Blocks stored and read whole. No condition. -/
import Derived.Test.YtbcjnckejkjfeaaRegC
import Derived.Test.YtbcjnckejkjfeaaRegL
import Derived.Laws.Rows
import Derived.Laws.CopyOwn
namespace Go.NP
open Go Go.RowKit
set_option linter.unusedSimpArgs false
set_option linter.unusedVariables false
theorem Box.row {w : World} {b : Nat} {l : List Value} {T : TypeId} (h : Box w b l T) (cs : List Value) : Box (w.setRow b cs.toArray) b cs T :=
  setRow_heap w b l.toArray cs.toArray T (0, 0) h
theorem Box.rowOther {w : World} {b g : Nat} {l : List Value} {T : TypeId} (h : Box w b l T) (hg : b ≠ g) (cs : Array Value) : Box (w.setRow g cs) b l T := by
  unfold Box at *
  rw [setRow_other w g b cs hg]; exact h
section
variable {P : Program} {Q : Exit → Act → World → Prop} {ls es : List Nat} {Te : List (Nat × Option Tmp) → Act → Prop} {ops : Array Oper} {o : Oper} {r : List Oper} {acc : List (Nat × Option Tmp)} {a : Act} {i g : Nat} {W w : World} {al : Al} {l cs : List Value} {T ty : TypeId} {x y : Operand} {d : TypeDesc}
theorem run_load_row (ho : o.op = .load ty x) (hx : a.eval x = .pointer (some ⟨g, 0, none⟩)) (hB : Box w g l T) (hu : P.underlying ty = some d) (hd : (match d with | .struct _ | .array _ _ => true | _ => false) = true)
    (hsz : (P.info? ty).map (·.size) = some l.length) : (execOp a.eval o).run P w = .ok (.value (.agg l.toArray)) w := by
  unfold execOp
  simp only [ho, hx, Instr.loadAt, Instr.sureAddr, Sem.run_bind, Sem.run_pure, Result.andThen_ok, run_loadVar_row w g T ty l.toArray (0, 0) d hB hu hd (by simpa using hsz)]
/-- A block that is known whole is read whole. -/
theorem SeqO.row (ho : o.op = .load ty x) (hx : a.eval x = .pointer (some ⟨g, 0, none⟩)) (hB : Box W g l T) (hu : P.underlying ty = some d) (hd : (match d with | .struct _ | .array _ _ => true | _ => false) = true)
    (hsz : (P.info? ty).map (·.size) = some l.length) (hi : (!ls.contains i && !es.contains i && al.all fun e => e.1 != i) = true) (hw : Region.wanted o (yielded ops a.tmps) = true)
    (h2 : SeqO P ops Q (SAl W al) ls es Te (i + 1) r acc (a.put o.dst (.agg l.toArray))) : SeqO P ops Q (SAl W al) ls es Te i (o :: r) acc a :=
  SeqO.val hi hw (fun w hb => run_load_row ho hx (hB.step hb) hu hd hsz) h2
theorem wpL_load (ho : o.op = .load ty x) (hx : a.eval x = .pointer (some ⟨g, 0, none⟩)) (hB : Box w g l T) (hu : P.underlying ty = some d) (hd : (match d with | .struct _ | .array _ _ => true | _ => false) = true)
    (hsz : (P.info? ty).map (·.size) = some l.length) (hw : Region.wanted o (yielded ops a.tmps) = true) (h : wpList P ops Q r (a.put o.dst (.agg l.toArray)) w) : wpList P ops Q (o :: r) a w :=
  wpL_val hw (run_load_row ho hx hB hu hd hsz) h
theorem wpL_store (ho : o.op = .store ty x y) (hx : a.eval x = .pointer (some ⟨g, 0, none⟩)) (hy : a.eval y = .agg cs.toArray) (hB : Box w g l T) (hsz : (P.info? ty).map (·.size) = some cs.length)
    (hl : l.length = cs.length) (h1 : cs.toArray.all (·.oneCell') = true) (hw : Region.wanted o (yielded ops a.tmps) = true) (h : wpList P ops Q r (a.put o.dst undef) (w.setRow g cs.toArray)) : wpList P ops Q (o :: r) a w := by
  unfold wpList
  rw [if_pos hw]
  left
  exact wp_store_row ty x y ho g cs.toArray hx hy T l.toArray hB (by simpa using hsz) (by simpa using hl) h1 h
end
end Go.NP
