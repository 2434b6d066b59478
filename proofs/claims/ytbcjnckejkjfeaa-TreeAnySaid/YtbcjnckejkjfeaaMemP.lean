/- A part of a block, read whole. No condition. -/
import Derived.Test.YtbcjnckejkjfeaaMemR
namespace Go.NP
open Go Go.RowKit
set_option linter.unusedSimpArgs false
set_option linter.unusedVariables false
/-- Block b holds l from place k on. -/
def At' (w : World) (b k : Nat) (l : List Value) : Prop := ∀ j v, l[j]? = some v → w.cell? ⟨b, k + j, none⟩ = some v
theorem Box.part {w : World} {b : Nat} {L : List Value} {T : TypeId} (h : Box w b L T) (k n : Nat) : At' w b k ((L.drop k).take n) := fun j v hv => by
  rw [h.cell]
  rcases Nat.lt_or_ge j n with hj | hj
  · rw [List.getElem?_take_of_lt hj, List.getElem?_drop] at hv; exact hv
  · rw [List.getElem?_eq_none (by simp; omega)] at hv; cases hv
section
variable {P : Program} {Q : Exit → Act → World → Prop} {ls es : List Nat} {Te : List (Nat × Option Tmp) → Act → Prop} {ops : Array Oper} {o : Oper} {r : List Oper} {acc : List (Nat × Option Tmp)} {a : Act} {i g k : Nat} {W w : World} {al : Al} {l cs : List Value} {T ty : TypeId} {x y : Operand} {d : TypeDesc}
theorem run_loadVar_part (hg : At' w g k l) (hu : P.underlying ty = some d) (hd : (match d with | .struct _ | .array _ _ => true | _ => false) = true) (hi : (P.info? ty).map (·.size) = some l.length) :
    (loadVar ty ⟨g, k, none⟩).run P w = .ok (.agg l.toArray) w := by
  have hl : (loadCells ⟨g, k, none⟩ l.length).run P w = .ok l.toArray w :=
    run_loadCells_list (P := P) w ⟨g, k, none⟩ l (fun j v hv => by
      have hadd : (⟨g, k, none⟩ : Addr).add j = ⟨g, k + j, none⟩ := by unfold Addr.add; split <;> simp_all
      rw [hadd]
      exact hg j v hv)
  cases hq : P.info? ty with
  | none => simp [hq] at hi
  | some i =>
    have hs : i.size = l.length := by simpa [hq] using hi
    have hagg : (isAgg ty).run P w = .ok true w := by
      unfold isAgg
      rw [Sem.run_bind, run_underlying hu w]
      cases d <;> simp_all
    simp [loadVar, Sem.run_bind, hagg, sizeOf, typeInfo, hq, hs, hl]
theorem run_load_part (ho : o.op = .load ty x) (hx : a.eval x = .pointer (some ⟨g, k, none⟩)) (hB : At' w g k l) (hu : P.underlying ty = some d) (hd : (match d with | .struct _ | .array _ _ => true | _ => false) = true)
    (hsz : (P.info? ty).map (·.size) = some l.length) : (execOp a.eval o).run P w = .ok (.value (.agg l.toArray)) w := by
  unfold execOp
  simp only [ho, hx, Instr.loadAt, Instr.sureAddr, Sem.run_bind, Sem.run_pure, Result.andThen_ok, run_loadVar_part hB hu hd hsz]
theorem SeqO.part (ho : o.op = .load ty x) (hx : a.eval x = .pointer (some ⟨g, k, none⟩)) {L : List Value} (hB : Box W g L T) (hl : (L.drop k).take l.length = l) (hu : P.underlying ty = some d) (hd : (match d with | .struct _ | .array _ _ => true | _ => false) = true)
    (hsz : (P.info? ty).map (·.size) = some l.length) (hi : (!ls.contains i && !es.contains i && al.all fun e => e.1 != i) = true) (hw : Region.wanted o (yielded ops a.tmps) = true)
    (h2 : SeqO P ops Q (SAl W al) ls es Te (i + 1) r acc (a.put o.dst (.agg l.toArray))) : SeqO P ops Q (SAl W al) ls es Te i (o :: r) acc a :=
  SeqO.val hi hw (fun w hb => run_load_part ho hx (by have := (hB.step hb).part k l.length; rw [hl] at this; exact this) hu hd hsz) h2
end
end Go.NP
