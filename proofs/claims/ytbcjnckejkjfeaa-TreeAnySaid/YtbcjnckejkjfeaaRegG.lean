/- A phase in which calls leave values that are not known ahead, each with what is said of it. No condition. -/
import Derived.Test.YtbcjnckejkjfeaaMem
import Derived.Test.YtbcjnckejkjfeaaRegB
namespace Go.NP
open Go Go.RowKit
set_option linter.unusedSimpArgs false
set_option linter.unusedVariables false
/-- What is said of a value, and goes on being said of it. -/
structure Keep where
  p : Value → World → Prop
  st : ∀ x w w', p x w → Below w.heap.size w w' → p x w'
abbrev Kl := List (Nat × Keep)
section
variable {P : Program} {Q : Exit → Act → World → Prop}
def SG (W : World) (Pr : Kl) (L : Nat → Bool) (u : Nat → Value) (w : World) : Prop := Below W.heap.size W w ∧ ∀ e ∈ Pr, L e.1 = true → e.2.p (u e.1) w
variable {ls es : List Nat} {T : List (Nat × Option Tmp) → Act → Prop} {ops : Array Oper} {o : Oper} {r : List Oper} {acc : List (Nat × Option Tmp)} {a : Act} {v : Value} {i : Nat} {W : World} {Pr : Kl}
theorem SG.step {L : Nat → Bool} {u : Nat → Value} {w w' : World} (h : SG W Pr L u w) (hb : Below w.heap.size w w') : SG W Pr L u w' :=
  ⟨h.1.trans (hb.mono h.1.size), fun e he hL => e.2.st _ _ _ (h.2 e he hL) hb⟩
theorem SG.mark {L : Nat → Bool} {u : Nat → Value} {w : World} (h : SG W Pr L u w) (hi : (Pr.all fun e => e.1 != i) = true) : SG W Pr (mark L i) u w := by
  simp only [List.all_eq_true, bne_iff_ne] at hi
  refine ⟨h.1, fun e he hL => h.2 e he ?_⟩
  have h2 : (e.1 == i) = false := by simpa using hi e he
  unfold Go.NP.mark at hL
  rw [h2] at hL; exact hL
theorem SG.fill {L : Nat → Bool} {u : Nat → Value} {w : World} {K : Keep} {x : Value} (h : SG W Pr L u w) (hone : ∀ e ∈ Pr, e.1 = i → e.2 = K) (hx : K.p x w) : SG W Pr (Go.NP.mark L i) (upd u i x) w := by
  refine ⟨h.1, fun e he hL => ?_⟩
  by_cases hei : e.1 = i
  · rw [hone e he hei, show upd u i x e.1 = x by simp [upd, hei]]; exact hx
  · have h2 : (e.1 == i) = false := by simpa using hei
    unfold Go.NP.mark at hL
    rw [h2] at hL
    rw [show upd u i x e.1 = u e.1 by simp [upd, hei]]
    exact h.2 e he hL
theorem SeqO.valG (hi : (!ls.contains i && !es.contains i && Pr.all fun e => e.1 != i) = true) (hw : Region.wanted o (yielded ops a.tmps) = true)
    (h1 : ∀ w, Below W.heap.size W w → (execOp a.eval o).run P w = .ok (.value v) w) (h2 : SeqO P ops Q (SG W Pr) ls es T (i + 1) r acc (a.put o.dst v)) : SeqO P ops Q (SG W Pr) ls es T i (o :: r) acc a := by
  simp only [Bool.and_eq_true, Bool.not_eq_true'] at hi
  unfold SeqO
  rw [if_neg (by rw [hi.1.1]; simp)]
  exact ⟨v, fun L u w hL hS K hK => by rw [if_pos hw]; simp only [Oper.wp, h1 w hS.1, Oper.upon]; exact hK w (hS.mark hi.2), fun h => by (rw [hi.1.2] at h; cases h), h2⟩
theorem SeqO.wpG (hi : (!ls.contains i && !es.contains i && Pr.all fun e => e.1 != i) = true) (hw : Region.wanted o (yielded ops a.tmps) = true)
    (h1 : ∀ w, Below W.heap.size W w → ∀ K : Act → World → Prop, (∀ w', Below w.heap.size w w' → K (a.put o.dst v) w') → o.wp P a w K (QOut Q)) (h2 : SeqO P ops Q (SG W Pr) ls es T (i + 1) r acc (a.put o.dst v)) : SeqO P ops Q (SG W Pr) ls es T i (o :: r) acc a := by
  simp only [Bool.and_eq_true, Bool.not_eq_true'] at hi
  unfold SeqO
  rw [if_neg (by rw [hi.1.1]; simp)]
  exact ⟨v, fun L u w hL hS K hK => by rw [if_pos hw]; exact h1 w hS.1 K (fun w' hb => hK w' ((hS.step hb).mark hi.2)), fun h => by (rw [hi.1.2] at h; cases h), h2⟩
/-- A call that returns a known value. -/
theorem SeqO.callvG {dst : Option Tmp} {x : Operand} {f : FuncId} {ca : Array Value} {xs : Array Operand} {ats : Array TypeId} {ty : TypeId} {pos : String} {after : Array Edge} {guard : Option (Nat × Bool)} {args : Array Value}
    (hi : (!ls.contains i && !es.contains i && Pr.all fun e => e.1 != i) = true)
    (hw : Region.wanted { dst, op := .call { callee := .value x, args := xs, argTypes := ats }, type := ty, pos, after, guard } (yielded ops a.tmps) = true) (hx : a.eval x = .func (.func f) #[] ca)
    (hcf : ∀ args w1, (callFunc f args).run P w1 = .ok (.enter f args) w1) (hargs : #[] ++ xs.map a.eval ++ ca = args)
    (h3 : ∀ w, Below W.heap.size W w → Calls P f args w fun e w' => e = .returned v ∧ Below w.heap.size w w') (h2 : SeqO P ops Q (SG W Pr) ls es T (i + 1) r acc (a.put dst v)) : SeqO P ops Q (SG W Pr) ls es T i ({ dst, op := .call { callee := .value x, args := xs, argTypes := ats }, type := ty, pos, after, guard } :: r) acc a :=
  SeqO.wpG hi hw (fun w hS K hK => by
    simp only [Oper.wp, execOp_call_val hx, hcf, hargs, Oper.upon]
    refine (h3 w hS).mono fun e w' ⟨he, hS'⟩ => ?_
    subst he; exact hK w' hS') h2
/-- What a call returns, when that hangs on the world: something of which K is said. -/
def RetK (P : Program) (f : FuncId) (args : Array Value) (w : World) (K : Keep) : Prop := Calls P f args w fun e w' => ∃ x, e = .returned x ∧ K.p x w' ∧ Below w.heap.size w w'
/-- A call that returns something not known ahead. -/
theorem SeqO.callG {dst : Option Tmp} {x : Operand} {f : FuncId} {ca : Array Value} {xs : Array Operand} {ats : Array TypeId} {ty : TypeId} {pos : String} {after : Array Edge} {guard : Option (Nat × Bool)} {args : Array Value} (K : Keep)
    (hi : (ls.contains i && !es.contains i) = true) (hone : ∀ e ∈ Pr, e.1 = i → e.2 = K)
    (hw : Region.wanted { dst, op := .call { callee := .value x, args := xs, argTypes := ats }, type := ty, pos, after, guard } (yielded ops a.tmps) = true) (hx : a.eval x = .func (.func f) #[] ca)
    (hcf : ∀ args w1, (callFunc f args).run P w1 = .ok (.enter f args) w1) (hargs : #[] ++ xs.map a.eval ++ ca = args)
    (h3 : ∀ w, Below W.heap.size W w → RetK P f args w K) (h2 : SeqO P ops Q (SG W Pr) ls es T (i + 1) r (acc ++ [(i, dst)]) a) : SeqO P ops Q (SG W Pr) ls es T i ({ dst, op := .call { callee := .value x, args := xs, argTypes := ats }, type := ty, pos, after, guard } :: r) acc a := by
  simp only [Bool.and_eq_true, Bool.not_eq_true'] at hi
  unfold SeqO
  rw [if_pos hi.1]
  unfold LooseOr
  rw [if_neg (by rw [hi.2]; simp)]
  refine ⟨fun L u w hL hS K' hK => ?_, h2⟩
  rw [if_pos hw]
  simp only [Oper.wp, execOp_call_val hx, hcf, hargs, Oper.upon]
  refine (h3 w hS.1).mono fun e w' ⟨x, he, hx, hS'⟩ => ?_
  subst he; exact hK x w' ((hS.step hS').fill hone hx)
theorem SeqO.nilG {m : Nat} {ms : List (Nat × PK)} {l : List Oper} (hm : (Pr.all fun e => decide (e.1 < m)) = true) (h : ∀ (u : Nat → Value) w', Below W.heap.size W w' → (∀ e ∈ Pr, e.2.p (u e.1) w') → Ph P l Q ms m (acc.foldl (fun b e => b.put e.2 (u e.1)) a) w') :
    SeqO P ops Q (SG W Pr) ls es (fun acc a' => ∀ L u w', (∀ j, j < m → L j = true) → SG W Pr L u w' → Ph P l Q ms m (acc.foldl (fun b e => b.put e.2 (u e.1)) a') w') i [] acc a :=
  fun L u w' hL hS => h u w' hS.1 fun e he => hS.2 e he (hL _ (by simp only [List.all_eq_true, decide_eq_true_eq] at hm; exact hm e he))
theorem SG.start {k m : Nat} (hal : (Pr.all fun e => decide (k ≤ e.1) && decide (e.1 < m)) = true) {w : World} (hb : Below W.heap.size W w) (L : Nat → Bool) (u : Nat → Value) (hL : ∀ j, k ≤ j → j < m → L j = false) : SG W Pr L u w := by
  simp only [List.all_eq_true, Bool.and_eq_true, decide_eq_true_eq] at hal
  exact ⟨hb, fun e he h => by (rw [hL _ (hal e he).1 (hal e he).2] at h; cases h)⟩
theorem Ph.gen {l : List Oper} {m : Nat} {ls : List Nat} {ms : List (Nat × PK)} {k : Nat} {w : World} (Pr : Kl) (hal : (Pr.all fun e => decide (k ≤ e.1) && decide (e.1 < m)) = true)
    (h : SeqO P l.toArray Q (SG w Pr) ls [] (fun acc a' => ∀ L u w', (∀ j, j < m → L j = true) → SG w Pr L u w' → Ph P l Q ms m (acc.foldl (fun b e => b.put e.2 (u e.1)) a') w') k ((l.drop k).take (m - k)) [] a) :
    Ph P l Q ((m, .free ls) :: ms) k a w := ⟨fun _ _ _ h => (by cases h), _, fun L u hL => SG.start hal (Below.refl _ _) L u hL, h⟩
theorem Ph.gend {l : List Oper} {m : Nat} {ls : List Nat} {ms : List (Nat × PK)} {k : Nat} {w : World} (Pr : Kl) (hal : (Pr.all fun e => decide (k ≤ e.1) && decide (e.1 < m)) = true)
    (h : SeqO P l.toArray Q (SG w Pr) ls [] (fun acc a' => ∀ L u w', (∀ j, j < m → L j = true) → SG w Pr L u w' → Ph P l Q ms m (acc.foldl (fun b e => b.put e.2 (u e.1)) a') w') k ((l.drop k).take (m - k)) [] a) :
    Ph P l Q ((m, .free ls) :: ms) k a w.drew := ⟨fun _ _ _ h => (by cases h), _, fun L u hL => SG.start hal (Below.refl _ _).drew L u hL, h⟩
/-- A new row of cells, and nothing else. -/
def newR (B n : Nat) (l : List Value) (T : TypeId) : Keep where
  p x w := ∃ g, x = .slice (some ⟨g, 0, none⟩) n n ∧ B ≤ g ∧ Box w g l T
  st x w w' h hb := by
    obtain ⟨g, h1, h2, h3⟩ := h
    exact ⟨g, h1, h2, h3.step hb⟩
end
end Go.NP
