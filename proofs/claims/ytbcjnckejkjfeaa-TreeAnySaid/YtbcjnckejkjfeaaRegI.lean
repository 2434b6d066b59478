/- A list of operations inside a fence that lets everything by, walked one by one; a call of yield; a round. No condition. -/
import Derived.Test.YtbcjnckejkjfeaaMemP
import Derived.RangeFuncNested
import Derived.RangeFuncLeaves
namespace Go.NP
open Go Go.RowKit
set_option linter.unusedSimpArgs false
set_option linter.unusedVariables false
/-- The fence lets everything by. -/
structure FW (F : Fence) : Prop where
  fn : ∀ f, F.fn f
  dp : F.depth = none
  al : F.alive = false
theorem fw_wide : FW Fence.wide := ⟨fun _ => trivial, rfl, rfl⟩
theorem fw_round (l : Nat) : FW (Fence.wide.inRound l) := ⟨fun _ => trivial, rfl, rfl⟩
theorem FW.fenced {F : Fence} (hF : FW F) (P : Program) (mm : Machine) : mm.fenced P F := fun g _ =>
  ⟨fun h => (by rw [hF.al] at h; cases h), Or.inl (hF.fn _), fun _ _ => hF.fn _, fun _ h => by rw [hF.dp] at h; cases h⟩
def notDefer : Op → Bool
  | .defer _ => false
  | _ => true
theorem semAt_nd {ro : Option Nat} {ρ : Operand → Value} {o : Oper} (h : notDefer o.op = true) : Oper.semAt ro ρ o = execOp ρ o :=
  Oper.semAt_eq _ _ _ fun c e => by rw [e] at h; cases h
section
variable {F : Fence} {m : Nat} {P : Program} {Q : Exit → Act → World → Prop} {ops : Array Oper} {o : Oper} {r : List Oper} {a : Act} {v : Value} {w w' : World}
theorem wpI_val (hF : FW F) (hnd : notDefer o.op = true) (hw : Region.wanted o (yielded ops a.tmps) = true) (h1 : (execOp a.eval o).run P w = .ok (.value v) w') (h : wpListIn F m P ops Q r (a.put o.dst v) w') : wpListIn F m P ops Q (o :: r) a w := by
  unfold wpListIn
  rw [if_pos hw]
  refine ⟨fun f _ => hF.fn f, ?_⟩
  rw [semAt_nd hnd, h1]
  exact h
theorem wpI_v (hF : FW F) (hnd : notDefer o.op = true) (hw : Region.wanted o (yielded ops a.tmps) = true) (h1 : (execOp a.eval o).run P w = .ok (.value v) w) (h : wpListIn F m P ops Q r (a.put o.dst v) w) : wpListIn F m P ops Q (o :: r) a w := wpI_val hF hnd hw h1 h
theorem wpI_do (hF : FW F) (hnd : notDefer o.op = true) (hw : Region.wanted o (yielded ops a.tmps) = true) (h1 : (execOp a.eval o).run P w = .ok .skip w') (h : wpListIn F m P ops Q r (a.put o.dst undef) w') : wpListIn F m P ops Q (o :: r) a w := by
  unfold wpListIn
  rw [if_pos hw]
  refine ⟨fun f _ => hF.fn f, ?_⟩
  rw [semAt_nd hnd, h1]
  exact h
theorem wpI_skip (hF : FW F) (hw : Region.wanted o (yielded ops a.tmps) = false) (h : wpListIn F m P ops Q r (a.put o.dst undef) w) : wpListIn F m P ops Q (o :: r) a w := by
  unfold wpListIn
  rw [if_neg (by rw [hw]; simp)]
  exact ⟨fun f _ => hF.fn f, h⟩
theorem callsIn_fw (hF : FW F) {f : FuncId} {args : Array Value} {R : Ending → World → Prop} (h : Calls P f args w R) : CallsIn F m P f args w R := by
  refine ⟨hF.fn f, fun cs _ => ?_⟩
  obtain ⟨e, w', fr, r, s, x⟩ := h cs
  refine ⟨e, w', fr, r, ?_, x⟩
  cases e with
  | returned v => exact (StepsIn.of_steps s).mono fun mm _ => hF.fenced P mm
  | panicked c => exact (StepsIn.of_steps s).mono fun mm _ => hF.fenced P mm
  | outgrown => exact s
theorem wpI_call {dst : Option Tmp} {x : Operand} {f : FuncId} {ca : Array Value} {xs : Array Operand} {ats : Array TypeId} {ty : TypeId} {pos : String} {after : Array Edge} {guard : Option (Nat × Bool)} {args : Array Value} (hF : FW F)
    (hw : Region.wanted { dst, op := .call { callee := .value x, args := xs, argTypes := ats }, type := ty, pos, after, guard } (yielded ops a.tmps) = true) (hx : a.eval x = .func (.func f) #[] ca)
    (hcf : ∀ args w1, (callFunc f args).run P w1 = .ok (.enter f args) w1) (hargs : #[] ++ xs.map a.eval ++ ca = args)
    (h : Calls P f args w fun e w' => ∃ v, e = .returned v ∧ wpListIn F m P ops Q r (a.put dst v) w') : wpListIn F m P ops Q ({ dst, op := .call { callee := .value x, args := xs, argTypes := ats }, type := ty, pos, after, guard } :: r) a w := by
  unfold wpListIn
  rw [if_pos hw]
  refine ⟨fun f _ => hF.fn f, ?_⟩
  rw [semAt_nd rfl, execOp_call_val hx, hargs, hcf]
  refine ⟨fun hd => (by rw [hF.dp] at hd; cases hd), (callsIn_fw hF h).mono fun e w' ⟨v, he, h⟩ => ?_⟩
  subst he
  exact h
theorem wpI_load {ty : TypeId} {x : Operand} {g k : Nat} {T : TypeId} {l L : List Value} {d : TypeDesc} (hF : FW F) (ho : o.op = .load ty x) (hx : a.eval x = .pointer (some ⟨g, k, none⟩)) (hB : Box w g L T) (hl : (L.drop k).take l.length = l) (hu : P.underlying ty = some d) (hd : (match d with | .struct _ | .array _ _ => true | _ => false) = true)
    (hsz : (P.info? ty).map (·.size) = some l.length) (hw : Region.wanted o (yielded ops a.tmps) = true) (h : wpListIn F m P ops Q r (a.put o.dst (.agg l.toArray)) w) : wpListIn F m P ops Q (o :: r) a w :=
  wpI_val hF (by rw [ho]; rfl) hw (run_load_part ho hx (by have := hB.part k l.length; rw [hl] at this; exact this) hu hd hsz) h
/-- A row stored whole. -/
theorem run_store_row {ty : TypeId} {x y : Operand} {g : Nat} {T : TypeId} {l cs : List Value} (ho : o.op = .store ty x y) (hx : a.eval x = .pointer (some ⟨g, 0, none⟩)) (hy : a.eval y = .agg cs.toArray) (hB : Box w g l T) (hsz : (P.info? ty).map (·.size) = some cs.length)
    (hl : l.length = cs.length) (h1 : cs.toArray.all (·.oneCell') = true) : (execOp a.eval o).run P w = .ok .skip (w.setRow g cs.toArray) := by
  unfold execOp
  simp only [ho, hx, hy, Instr.storeAt, Instr.sureAddr, Sem.run_bind, Sem.run_pure, Result.andThen_ok, run_storeVar_row w g T ty l.toArray cs.toArray hB (by simpa using hsz) (by simpa using hl) h1]
theorem wpI_store {ty : TypeId} {x y : Operand} {g : Nat} {T : TypeId} {l cs : List Value} (hF : FW F) (ho : o.op = .store ty x y) (hx : a.eval x = .pointer (some ⟨g, 0, none⟩)) (hy : a.eval y = .agg cs.toArray) (hB : Box w g l T) (hsz : (P.info? ty).map (·.size) = some cs.length)
    (hl : l.length = cs.length) (h1 : cs.toArray.all (·.oneCell') = true) (hw : Region.wanted o (yielded ops a.tmps) = true) (h : wpListIn F m P ops Q r (a.put o.dst undef) (w.setRow g cs.toArray)) : wpListIn F m P ops Q (o :: r) a w :=
  wpI_do hF (by rw [ho]; rfl) hw (run_store_row ho hx hy hB hsz hl h1) h
theorem execOp_call_yield {dst : Option Tmp} {x : Operand} {l : Nat} {xs : Array Operand} {ats : Array TypeId} {ty : TypeId} {pos : String} {after : Array Edge} {guard : Option (Nat × Bool)} (hx : a.eval x = .func (.yield l) #[] #[]) :
    execOp a.eval { dst, op := .call { callee := .value x, args := xs, argTypes := ats }, type := ty, pos, after, guard } = Instr.yield l (#[] ++ xs.map a.eval ++ #[]) := by
  simp only [execOp, resolve, hx]; rfl
/-- A call of yield. -/
theorem wpI_yield {dst : Option Tmp} {x : Operand} {l : Nat} {xs : Array Operand} {ats : Array TypeId} {ty : TypeId} {pos : String} {after : Array Edge} {guard : Option (Nat × Bool)} {args : Array Value} {R : Ending → World → Prop} (hF : FW F)
    (hw : Region.wanted { dst, op := .call { callee := .value x, args := xs, argTypes := ats }, type := ty, pos, after, guard } (yielded ops a.tmps) = true) (hx : a.eval x = .func (.yield l) #[] #[]) (hargs : #[] ++ xs.map a.eval ++ #[] = args)
    (hY : YieldAt F (m - 1) P l args w R)
    (h : ∀ e w', R e w' → ∃ v, e = .returned v ∧ wpListIn F m P ops Q r (a.put dst v) w') : wpListIn F m P ops Q ({ dst, op := .call { callee := .value x, args := xs, argTypes := ats }, type := ty, pos, after, guard } :: r) a w := by
  unfold wpListIn
  rw [if_pos hw]
  refine ⟨fun f _ => hF.fn f, ?_⟩
  obtain ⟨fn, tmps, assign, body, hy, hR⟩ := hY
  rw [semAt_nd rfl, execOp_call_yield hx, hargs, hy]
  refine ⟨fun hd => (by rw [hF.dp] at hd; cases hd), hR.mono fun e w' hr => ?_⟩
  obtain ⟨v, rfl, h⟩ := h e w' hr
  exact h
end
theorem wpL_go {P : Program} {Q : Exit → Act → World → Prop} {ops : Array Oper} {o : Oper} {r : List Oper} {a : Act} {v : Value} {w w' : World} (hw : Region.wanted o (yielded ops a.tmps) = true) (h1 : (execOp a.eval o).run P w = .ok (.value v) w') (h : wpList P ops Q r (a.put o.dst v) w') : wpList P ops Q (o :: r) a w := by
  unfold wpList
  rw [if_pos hw]
  left
  simp only [Oper.wp, h1, Oper.upon]
  exact h
theorem wpL_part {P : Program} {Q : Exit → Act → World → Prop} {ops : Array Oper} {o : Oper} {r : List Oper} {a : Act} {w : World} {ty : TypeId} {x : Operand} {g k : Nat} {T : TypeId} {l L : List Value} {d : TypeDesc} (ho : o.op = .load ty x) (hx : a.eval x = .pointer (some ⟨g, k, none⟩)) (hB : Box w g L T) (hl : (L.drop k).take l.length = l) (hu : P.underlying ty = some d) (hd : (match d with | .struct _ | .array _ _ => true | _ => false) = true)
    (hsz : (P.info? ty).map (·.size) = some l.length) (hw : Region.wanted o (yielded ops a.tmps) = true) (h : wpList P ops Q r (a.put o.dst (.agg l.toArray)) w) : wpList P ops Q (o :: r) a w :=
  wpL_val hw (run_load_part ho hx (by have := hB.part k l.length; rw [hl] at this; exact this) hu hd hsz) h
theorem wpList_any {P : Program} {Q : Exit → Act → World → Prop} {ops : Array Oper} {r : List Oper} {a : Act} {w : World} (h : wpList P ops Q r a w) : wpList P ops Q r a w := h
theorem wpListIn_any {F : Fence} {m : Nat} {P : Program} {Q : Exit → Act → World → Prop} {ops : Array Oper} {r : List Oper} {a : Act} {w : World} (h : wpListIn F m P ops Q r a w) : wpListIn F m P ops Q r a w := h
theorem alloc_setRow (w : World) (cs cs' : Array Value) (T : TypeId) : (w.alloc (.cells cs T)).setRow w.heap.size cs' = w.alloc (.cells cs' T) := by
  unfold World.setRow World.alloc
  cases w with
  | mk heap tape drawn os output =>
    simp only [World.mk.injEq, and_true]
    apply Array.ext
    · simp
    · intro i h1 h2
      simp only [Array.getElem_modify]
      split
      · rename_i e; subst e; simp
      · rename_i e
        have : i < heap.size := by simp at h2; omega
        simp [Array.getElem_push, this]
theorem keepsFrom_below {B : Nat} {W W' : World} (h : Below W.heap.size W W') : KeepsFrom B W W' :=
  ⟨h.size, fun k o _ hk _ => (h.block k (Array.getElem?_eq_some_iff.1 hk).1).trans hk⟩
theorem keepsFrom_setRow {B g : Nat} {W : World} {l : List Value} {T : TypeId} (hB : Box W g l T) (cs : Array Value) : KeepsFrom B W (W.setRow g cs) :=
  ⟨by simp [World.setRow], fun k o _ hk ho => by
    by_cases e : k = g
    · subst e; rw [show W.heap[k]? = _ from hB] at hk; cases hk; cases ho
    · rw [setRow_other W g k cs e]; exact hk⟩
theorem box_own {β : Type} (b : Nat) (T : TypeId) (f : β → List Value) : Own (fun s W => Box W b (f s) T) := fun s X Y row hs hg hrow =>
  (hg.block b hs.lt (fun e' => by obtain ⟨o, ho, hc⟩ := hrow b e'.symm; rw [show X.heap[b]? = _ from hs] at ho; cases ho; cases hc)).trans hs
end Go.NP
