/- A phase with one operation that changes the world: R1 ahead of it, R2 behind it. No condition. -/
import Derived.Test.YtbcjnckejkjfeaaReg
namespace Go.NP
open Go Go.RowKit
section
variable {P : Program} {Q : Exit → Act → World → Prop}
def SOne (i0 : Nat) (R1 R2 : World → Prop) : (Nat → Bool) → (Nat → Value) → World → Prop := fun L _ w => if L i0 = true then R2 w else R1 w
variable {ls es : List Nat} {T : List (Nat × Option Tmp) → Act → Prop} {ops : Array Oper} {o : Oper} {r : List Oper} {acc : List (Nat × Option Tmp)} {a : Act} {v : Value} {i i0 : Nat} {R1 R2 : World → Prop}
theorem sOne_mark {L : Nat → Bool} {u : Nat → Value} {w : World} (hi : (i != i0) = true) (h : SOne i0 R1 R2 L u w) : SOne i0 R1 R2 (mark L i) u w := by
  unfold SOne at *
  have : mark L i i0 = L i0 := by
    unfold mark
    have h2 : (i0 == i) = false := by simp at hi ⊢; exact fun e => hi e.symm
    rw [h2]; rfl
  rw [this]; exact h
theorem SeqO.val1 (hi : (!ls.contains i && !es.contains i && i != i0) = true) (hw : Region.wanted o (yielded ops a.tmps) = true)
    (h1 : ∀ w, R1 w ∨ R2 w → (execOp a.eval o).run P w = .ok (.value v) w) (h2 : SeqO P ops Q (SOne i0 R1 R2) ls es T (i + 1) r acc (a.put o.dst v)) : SeqO P ops Q (SOne i0 R1 R2) ls es T i (o :: r) acc a := by
  simp only [Bool.and_eq_true, Bool.not_eq_true'] at hi
  unfold SeqO
  rw [if_neg (by rw [hi.1.1]; simp)]
  refine ⟨v, fun L u w hL hS K hK => ?_, fun h => (by rw [hi.1.2] at h; cases h), h2⟩
  rw [if_pos hw]; simp only [Oper.wp, h1 w (by unfold SOne at hS; split at hS; exact .inr hS; exact .inl hS), Oper.upon]; exact hK w (sOne_mark hi.2 hS)
theorem SeqO.skip1 (hi : (!ls.contains i && !es.contains i && i != i0) = true) (hw : Region.wanted o (yielded ops a.tmps) = false)
    (h2 : SeqO P ops Q (SOne i0 R1 R2) ls es T (i + 1) r acc (a.put o.dst undef)) : SeqO P ops Q (SOne i0 R1 R2) ls es T i (o :: r) acc a := by
  simp only [Bool.and_eq_true, Bool.not_eq_true'] at hi
  unfold SeqO
  rw [if_neg (by rw [hi.1.1]; simp)]
  exact ⟨undef, fun L u w hL hS K hK => by rw [if_neg (by rw [hw]; simp)]; exact hK w (sOne_mark hi.2 hS), fun h => (by rw [hi.1.2] at h; cases h), h2⟩
theorem SeqO.one (hi : (!ls.contains i0 && !es.contains i0) = true) (hw : Region.wanted o (yielded ops a.tmps) = true)
    (h1 : ∀ w, R1 w → ∀ K : Act → World → Prop, (∀ w', R2 w' → K (a.put o.dst v) w') → o.wp P a w K (QOut Q)) (h2 : SeqO P ops Q (SOne i0 R1 R2) ls es T (i0 + 1) r acc (a.put o.dst v)) : SeqO P ops Q (SOne i0 R1 R2) ls es T i0 (o :: r) acc a := by
  simp only [Bool.and_eq_true, Bool.not_eq_true'] at hi
  unfold SeqO
  rw [if_neg (by rw [hi.1]; simp)]
  refine ⟨v, fun L u w hL hS K hK => ?_, fun h => (by rw [hi.2] at h; cases h), h2⟩
  rw [if_pos hw]
  unfold SOne at hS
  rw [if_neg (by rw [hL]; simp)] at hS
  refine h1 w hS K fun w' h' => hK w' ?_
  unfold SOne
  rw [if_pos (by simp [mark])]; exact h'
theorem SeqO.call1 {dst : Option Tmp} {x : Operand} {f : FuncId} {ca : Array Value} {xs : Array Operand} {ats : Array TypeId} {ty : TypeId} {pos : String} {after : Array Edge} {guard : Option (Nat × Bool)} {args : Array Value}
    (hi : (!ls.contains i0 && !es.contains i0) = true)
    (hw : Region.wanted { dst, op := .call { callee := .value x, args := xs, argTypes := ats }, type := ty, pos, after, guard } (yielded ops a.tmps) = true) (hx : a.eval x = .func (.func f) #[] ca)
    (hcf : ∀ args w1, (callFunc f args).run P w1 = .ok (.enter f args) w1) (hargs : #[] ++ xs.map a.eval ++ ca = args)
    (h3 : ∀ w, R1 w → Calls P f args w fun e w' => e = .returned v ∧ R2 w') (h2 : SeqO P ops Q (SOne i0 R1 R2) ls es T (i0 + 1) r acc (a.put dst v)) : SeqO P ops Q (SOne i0 R1 R2) ls es T i0 ({ dst, op := .call { callee := .value x, args := xs, argTypes := ats }, type := ty, pos, after, guard } :: r) acc a :=
  SeqO.one hi hw (fun w hS K hK => by
    simp only [Oper.wp, execOp_call_val hx, hcf, hargs, Oper.upon]
    refine (h3 w hS).mono fun e w' ⟨he, hS'⟩ => ?_
    subst he; exact hK w' hS') h2
theorem SeqO.nil1 {m : Nat} {ms : List (Nat × PK)} {l : List Oper} (hm : i0 < m) (h : ∀ w', R2 w' → Ph P l Q ms m a w') :
    SeqO P ops Q (SOne i0 R1 R2) ls es (fun acc a' => ∀ L u w', (∀ j, j < m → L j = true) → SOne i0 R1 R2 L u w' → Ph P l Q ms m (acc.foldl (fun b e => b.put e.2 (u e.1)) a') w') i [] [] a :=
  fun L u w' hL hS => h w' (by unfold SOne at hS; rw [if_pos (hL i0 hm)] at hS; exact hS)
theorem Ph.one {l : List Oper} {m : Nat} {ms : List (Nat × PK)} {k : Nat} {w : World} (i0 : Nat) (R1 R2 : World → Prop) (hk : (decide (k ≤ i0) && decide (i0 < m)) = true) (hR : R1 w)
    (h : SeqO P l.toArray Q (SOne i0 R1 R2) [] [] (fun acc a' => ∀ L u w', (∀ j, j < m → L j = true) → SOne i0 R1 R2 L u w' → Ph P l Q ms m (acc.foldl (fun b e => b.put e.2 (u e.1)) a') w') k ((l.drop k).take (m - k)) [] a) :
    Ph P l Q ((m, .free []) :: ms) k a w := ⟨fun _ _ _ h => (by cases h), _, fun L u hL => by
      simp only [Bool.and_eq_true, decide_eq_true_eq] at hk
      unfold SOne; rw [if_neg (by rw [hL i0 hk.1 hk.2]; simp)]; exact hR, h⟩
end
end Go.NP
