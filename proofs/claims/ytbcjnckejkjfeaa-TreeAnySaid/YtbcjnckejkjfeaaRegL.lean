/- A list of operations, walked one by one. No condition. -/
import Derived.Test.YtbcjnckejkjfeaaRegC
namespace Go.NP
open Go Go.RowKit
section
variable {P : Program} {Q : Exit → Act → World → Prop} {ops : Array Oper} {o : Oper} {r : List Oper} {a : Act} {v : Value} {w : World}
theorem wpL_val (hw : Region.wanted o (yielded ops a.tmps) = true) (h1 : (execOp a.eval o).run P w = .ok (.value v) w) (h : wpList P ops Q r (a.put o.dst v) w) : wpList P ops Q (o :: r) a w := by
  unfold wpList
  rw [if_pos hw]
  left
  simp only [Oper.wp, h1, Oper.upon]
  exact h
theorem wpL_skip (hw : Region.wanted o (yielded ops a.tmps) = false) (h : wpList P ops Q r (a.put o.dst undef) w) : wpList P ops Q (o :: r) a w := by
  unfold wpList
  rw [if_neg (by rw [hw]; simp)]
  exact h
theorem wpL_call {dst : Option Tmp} {x : Operand} {f : FuncId} {ca : Array Value} {xs : Array Operand} {ats : Array TypeId} {ty : TypeId} {pos : String} {after : Array Edge} {guard : Option (Nat × Bool)} {args : Array Value}
    (hw : Region.wanted { dst, op := .call { callee := .value x, args := xs, argTypes := ats }, type := ty, pos, after, guard } (yielded ops a.tmps) = true) (hx : a.eval x = .func (.func f) #[] ca)
    (hcf : ∀ args w1, (callFunc f args).run P w1 = .ok (.enter f args) w1) (hargs : #[] ++ xs.map a.eval ++ ca = args)
    (h : Calls P f args w fun e w' => ∃ v, e = .returned v ∧ wpList P ops Q r (a.put dst v) w') : wpList P ops Q ({ dst, op := .call { callee := .value x, args := xs, argTypes := ats }, type := ty, pos, after, guard } :: r) a w := by
  unfold wpList
  rw [if_pos hw]
  left
  simp only [Oper.wp, execOp_call_val hx, hcf, hargs, Oper.upon]
  refine h.mono fun e w' ⟨v, he, h⟩ => ?_
  subst he
  exact h
end
end Go.NP
