/- A phase in which new rows of cells are made and known parts of blocks are read. No condition. -/
import Derived.Test.YtbcjnckejkjfeaaRegG
import Derived.Test.YtbcjnckejkjfeaaMemQ
namespace Go.NP
open Go Go.RowKit
set_option linter.unusedSimpArgs false
set_option linter.unusedVariables false
section
variable {P : Program} {Q : Exit → Act → World → Prop} {ls es : List Nat} {Te : List (Nat × Option Tmp) → Act → Prop} {ops : Array Oper} {o : Oper} {r : List Oper} {acc : List (Nat × Option Tmp)} {a : Act} {i g k : Nat} {W w : World} {Pr : Kl} {l cs : List Value} {T ty : TypeId} {x y : Operand} {d : TypeDesc}
theorem SeqO.atG (ho : o.op = .load ty x) (hx : a.eval x = .pointer (some ⟨g, k, none⟩)) (hg : g < W.heap.size) (hB : At' W g k l) (hu : P.underlying ty = some d) (hd : (match d with | .struct _ | .array _ _ => true | _ => false) = true)
    (hsz : (P.info? ty).map (·.size) = some l.length) (hi : (!ls.contains i && !es.contains i && Pr.all fun e => e.1 != i) = true) (hw : Region.wanted o (yielded ops a.tmps) = true)
    (h2 : SeqO P ops Q (SG W Pr) ls es Te (i + 1) r acc (a.put o.dst (.agg l.toArray))) : SeqO P ops Q (SG W Pr) ls es Te i (o :: r) acc a :=
  SeqO.valG hi hw (fun w hb => run_load_part ho hx (hB.step hg hb) hu hd hsz) h2
/-- An operation that makes a new row of cells. -/
theorem SeqO.newG {B n : Nat} (hi : (ls.contains i && !es.contains i) = true) (hone : ∀ e ∈ Pr, e.1 = i → e.2 = newR B n l T) (hw : Region.wanted o (yielded ops a.tmps) = true)
    (h3 : ∀ w, (execOp a.eval o).run P w = .ok (.value (.slice (some ⟨w.heap.size, 0, none⟩) n n)) (w.alloc (.cells l.toArray T))) (hB : B ≤ W.heap.size) (h2 : SeqO P ops Q (SG W Pr) ls es Te (i + 1) r (acc ++ [(i, o.dst)]) a) : SeqO P ops Q (SG W Pr) ls es Te i (o :: r) acc a := by
  simp only [Bool.and_eq_true, Bool.not_eq_true'] at hi
  unfold SeqO
  rw [if_pos hi.1]
  unfold LooseOr
  rw [if_neg (by rw [hi.2]; simp)]
  refine ⟨fun L u w hL hS K' hK => ?_, h2⟩
  rw [if_pos hw]
  simp only [Oper.wp, h3, Oper.upon]
  refine hK _ _ (SG.fill (hS.step ((Below.refl _ _).alloc (Nat.le_refl _) _)) hone ⟨w.heap.size, rfl, Nat.le_trans hB hS.1.size, Box.new rfl⟩)
end
end Go.NP
