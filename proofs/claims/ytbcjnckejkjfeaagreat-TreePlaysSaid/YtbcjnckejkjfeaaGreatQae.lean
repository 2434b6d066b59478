/- Blocks stored and read whole. No condition. A part of a block, read whole. No condition. A list of operations inside a fence that lets everything by, walked one by one; a call of yield; a round. No condition. A stretch of a block that is known, read as one value. No condition. A phase in which new rows of cells are made and known parts of blocks are read. No condition. Maps by integers, their elements whatever values: looked up, written. No condition. Slices of pairs, and those of one's own. No condition. Trees of nodes by numbers, plainly: what the program's steps do to them. No condition. Trees of nodes by numbers, plainly: reckoning anew, hanging another node in the place of one. No condition. -/
import Derived.Test.YtbcjnckejkjfeaaGreatQac
import Derived.Laws.Rows
import Derived.Laws.CopyOwn
import Derived.RangeFuncNested
import Derived.RangeFuncLeaves
import Derived.Test.YtbcjnckejkjfeaaGreatChecked
import Derived.Maps.Own
import Derived.Maps.OwnOps
import Derived.Maps.OwnSet
import Derived.Maps.Range
import Derived.Lib.SlKeysI
import Derived.WalkSpells
import Derived.Lib.SliceRun
import Derived.Laws.AppendOwn
import Derived.Laws.AppendOwnNone
import Derived.OwnWalk
import Derived.Test.YtbcjnckejkjfeaaGreatQad
namespace Go.NP
open Go Go.RowKit
set_option linter.unusedSimpArgs false
set_option linter.unusedVariables false
theorem Box.row {w : World} {b : Nat} {l : List Value} {T : TypeId} (h : Box w b l T) (cs : List Value) : Box (w.setRow b cs.toArray) b cs T :=
  setRow_heap w b l.toArray cs.toArray T (0, 0) h
theorem Box.rowOther {w : World} {b g : Nat} {l : List Value} {T : TypeId} (h : Box w b l T) (hg : b ≠ g) (cs : Array Value) : Box (w.setRow g cs) b l T := by
  unfold Box at *
  rw [setRow_other w g b cs hg]; exact h
section
variable {P : Program} {Q : Exit → Act → World → Prop} {ls es : List Nat} {Te : List (Nat × Option Tmp) → Act → Prop} {ops : Array Oper} {o : Oper} {r : List Oper} {acc : List (Nat × Option Tmp)} {a : Act} {i g : Nat} {W w : World} {al : Al} {l cs : List Value} {T ty : TypeId} {x y : Operand} {d : TypeDesc}
theorem run_load_row (ho : o.op = .load ty x) (hx : a.eval x = .pointer (some ⟨g, 0, none⟩)) (hB : Box w g l T) (hu : P.underlying ty = some d) (hd : (match d with | .struct _ | .array _ _ => true | _ => false) = true)
    (hsz : (P.info? ty).map (·.size) = some l.length) : (execOp a.eval o).run P w = .ok (.value (.agg l.toArray)) w := by
  unfold execOp
  simp only [ho, hx, Instr.loadAt, Instr.sureAddr, Sem.run_bind, Sem.run_pure, Result.andThen_ok, run_loadVar_row w g T ty l.toArray (0, 0) d hB hu hd (by simpa using hsz)]
/-- A block that is known whole is read whole. -/
theorem SeqO.row (ho : o.op = .load ty x) (hx : a.eval x = .pointer (some ⟨g, 0, none⟩)) (hB : Box W g l T) (hu : P.underlying ty = some d) (hd : (match d with | .struct _ | .array _ _ => true | _ => false) = true)
    (hsz : (P.info? ty).map (·.size) = some l.length) (hi : (!ls.contains i && !es.contains i && al.all fun e => e.1 != i) = true) (hw : Region.wanted o (yielded ops a.tmps) = true)
    (h2 : SeqO P ops Q (SAl W al) ls es Te (i + 1) r acc (a.put o.dst (.agg l.toArray))) : SeqO P ops Q (SAl W al) ls es Te i (o :: r) acc a :=
  SeqO.val hi hw (fun w hb => run_load_row ho hx (hB.step hb) hu hd hsz) h2
theorem wpL_load (ho : o.op = .load ty x) (hx : a.eval x = .pointer (some ⟨g, 0, none⟩)) (hB : Box w g l T) (hu : P.underlying ty = some d) (hd : (match d with | .struct _ | .array _ _ => true | _ => false) = true)
    (hsz : (P.info? ty).map (·.size) = some l.length) (hw : Region.wanted o (yielded ops a.tmps) = true) (h : wpList P ops Q r (a.put o.dst (.agg l.toArray)) w) : wpList P ops Q (o :: r) a w :=
  wpL_val hw (run_load_row ho hx hB hu hd hsz) h
theorem wpL_store (ho : o.op = .store ty x y) (hx : a.eval x = .pointer (some ⟨g, 0, none⟩)) (hy : a.eval y = .agg cs.toArray) (hB : Box w g l T) (hsz : (P.info? ty).map (·.size) = some cs.length)
    (hl : l.length = cs.length) (h1 : cs.toArray.all (·.oneCell') = true) (hw : Region.wanted o (yielded ops a.tmps) = true) (h : wpList P ops Q r (a.put o.dst undef) (w.setRow g cs.toArray)) : wpList P ops Q (o :: r) a w := by
  unfold wpList
  rw [if_pos hw]
  left
  exact wp_store_row ty x y ho g cs.toArray hx hy T l.toArray hB (by simpa using hsz) (by simpa using hl) h1 h
end
end Go.NP
namespace Go.NP
open Go Go.RowKit
set_option linter.unusedSimpArgs false
set_option linter.unusedVariables false
/-- Block b holds l from place k on. -/
def At' (w : World) (b k : Nat) (l : List Value) : Prop := ∀ j v, l[j]? = some v → w.cell? ⟨b, k + j, none⟩ = some v
theorem Box.part {w : World} {b : Nat} {L : List Value} {T : TypeId} (h : Box w b L T) (k n : Nat) : At' w b k ((L.drop k).take n) := fun j v hv => by
  rw [h.cell]
  rcases Nat.lt_or_ge j n with hj | hj
  · rw [List.getElem?_take_of_lt hj, List.getElem?_drop] at hv; exact hv
  · rw [List.getElem?_eq_none (by simp; omega)] at hv; cases hv
section
variable {P : Program} {Q : Exit → Act → World → Prop} {ls es : List Nat} {Te : List (Nat × Option Tmp) → Act → Prop} {ops : Array Oper} {o : Oper} {r : List Oper} {acc : List (Nat × Option Tmp)} {a : Act} {i g k : Nat} {W w : World} {al : Al} {l cs : List Value} {T ty : TypeId} {x y : Operand} {d : TypeDesc}
theorem run_loadVar_part (hg : At' w g k l) (hu : P.underlying ty = some d) (hd : (match d with | .struct _ | .array _ _ => true | _ => false) = true) (hi : (P.info? ty).map (·.size) = some l.length) :
    (loadVar ty ⟨g, k, none⟩).run P w = .ok (.agg l.toArray) w := by
  have hl : (loadCells ⟨g, k, none⟩ l.length).run P w = .ok l.toArray w :=
    run_loadCells_list (P := P) w ⟨g, k, none⟩ l (fun j v hv => by
      have hadd : (⟨g, k, none⟩ : Addr).add j = ⟨g, k + j, none⟩ := by unfold Addr.add; split <;> simp_all
      rw [hadd]
      exact hg j v hv)
  cases hq : P.info? ty with
  | none => simp [hq] at hi
  | some i =>
    have hs : i.size = l.length := by simpa [hq] using hi
    have hagg : (isAgg ty).run P w = .ok true w := by
      unfold isAgg
      rw [Sem.run_bind, run_underlying hu w]
      cases d <;> simp_all
    simp [loadVar, Sem.run_bind, hagg, sizeOf, typeInfo, hq, hs, hl]
theorem run_load_part (ho : o.op = .load ty x) (hx : a.eval x = .pointer (some ⟨g, k, none⟩)) (hB : At' w g k l) (hu : P.underlying ty = some d) (hd : (match d with | .struct _ | .array _ _ => true | _ => false) = true)
    (hsz : (P.info? ty).map (·.size) = some l.length) : (execOp a.eval o).run P w = .ok (.value (.agg l.toArray)) w := by
  unfold execOp
  simp only [ho, hx, Instr.loadAt, Instr.sureAddr, Sem.run_bind, Sem.run_pure, Result.andThen_ok, run_loadVar_part hB hu hd hsz]
theorem SeqO.part (ho : o.op = .load ty x) (hx : a.eval x = .pointer (some ⟨g, k, none⟩)) {L : List Value} (hB : Box W g L T) (hl : (L.drop k).take l.length = l) (hu : P.underlying ty = some d) (hd : (match d with | .struct _ | .array _ _ => true | _ => false) = true)
    (hsz : (P.info? ty).map (·.size) = some l.length) (hi : (!ls.contains i && !es.contains i && al.all fun e => e.1 != i) = true) (hw : Region.wanted o (yielded ops a.tmps) = true)
    (h2 : SeqO P ops Q (SAl W al) ls es Te (i + 1) r acc (a.put o.dst (.agg l.toArray))) : SeqO P ops Q (SAl W al) ls es Te i (o :: r) acc a :=
  SeqO.val hi hw (fun w hb => run_load_part ho hx (by have := (hB.step hb).part k l.length; rw [hl] at this; exact this) hu hd hsz) h2
end
end Go.NP
namespace Go.NP
open Go Go.RowKit
set_option linter.unusedSimpArgs false
set_option linter.unusedVariables false
/-- The fence lets everything by. -/
structure FW (F : Fence) : Prop where
  fn : ∀ f, F.fn f
  dp : F.depth = none
  al : F.alive = false
theorem fw_wide : FW Fence.wide := ⟨fun _ => trivial, rfl, rfl⟩
theorem fw_round (l : Nat) : FW (Fence.wide.inRound l) := ⟨fun _ => trivial, rfl, rfl⟩
theorem FW.fenced {F : Fence} (hF : FW F) (P : Program) (mm : Machine) : mm.fenced P F := fun g _ =>
  ⟨fun h => (by rw [hF.al] at h; cases h), Or.inl (hF.fn _), fun _ _ => hF.fn _, fun _ h => by rw [hF.dp] at h; cases h⟩
def notDefer : Op → Bool
  | .defer _ => false
  | _ => true
theorem semAt_nd {ro : Option Nat} {ρ : Operand → Value} {o : Oper} (h : notDefer o.op = true) : Oper.semAt ro ρ o = execOp ρ o :=
  Oper.semAt_eq _ _ _ fun c e => by rw [e] at h; cases h
section
variable {F : Fence} {m : Nat} {P : Program} {Q : Exit → Act → World → Prop} {ops : Array Oper} {o : Oper} {r : List Oper} {a : Act} {v : Value} {w w' : World}
theorem wpI_val (hF : FW F) (hnd : notDefer o.op = true) (hw : Region.wanted o (yielded ops a.tmps) = true) (h1 : (execOp a.eval o).run P w = .ok (.value v) w') (h : wpListIn F m P ops Q r (a.put o.dst v) w') : wpListIn F m P ops Q (o :: r) a w := by
  unfold wpListIn
  rw [if_pos hw]
  refine ⟨fun f _ => hF.fn f, ?_⟩
  rw [semAt_nd hnd, h1]
  exact h
theorem wpI_v (hF : FW F) (hnd : notDefer o.op = true) (hw : Region.wanted o (yielded ops a.tmps) = true) (h1 : (execOp a.eval o).run P w = .ok (.value v) w) (h : wpListIn F m P ops Q r (a.put o.dst v) w) : wpListIn F m P ops Q (o :: r) a w := wpI_val hF hnd hw h1 h
theorem wpI_do (hF : FW F) (hnd : notDefer o.op = true) (hw : Region.wanted o (yielded ops a.tmps) = true) (h1 : (execOp a.eval o).run P w = .ok .skip w') (h : wpListIn F m P ops Q r (a.put o.dst undef) w') : wpListIn F m P ops Q (o :: r) a w := by
  unfold wpListIn
  rw [if_pos hw]
  refine ⟨fun f _ => hF.fn f, ?_⟩
  rw [semAt_nd hnd, h1]
  exact h
theorem wpI_skip (hF : FW F) (hw : Region.wanted o (yielded ops a.tmps) = false) (h : wpListIn F m P ops Q r (a.put o.dst undef) w) : wpListIn F m P ops Q (o :: r) a w := by
  unfold wpListIn
  rw [if_neg (by rw [hw]; simp)]
  exact ⟨fun f _ => hF.fn f, h⟩
theorem callsIn_fw (hF : FW F) {f : FuncId} {args : Array Value} {R : Ending → World → Prop} (h : Calls P f args w R) : CallsIn F m P f args w R := by
  refine ⟨hF.fn f, fun cs _ => ?_⟩
  obtain ⟨e, w', fr, r, s, x⟩ := h cs
  refine ⟨e, w', fr, r, ?_, x⟩
  cases e with
  | returned v => exact (StepsIn.of_steps s).mono fun mm _ => hF.fenced P mm
  | panicked c => exact (StepsIn.of_steps s).mono fun mm _ => hF.fenced P mm
  | outgrown => exact s
theorem wpI_call {dst : Option Tmp} {x : Operand} {f : FuncId} {ca : Array Value} {xs : Array Operand} {ats : Array TypeId} {ty : TypeId} {pos : String} {after : Array Edge} {guard : Option (Nat × Bool)} {args : Array Value} (hF : FW F)
    (hw : Region.wanted { dst, op := .call { callee := .value x, args := xs, argTypes := ats }, type := ty, pos, after, guard } (yielded ops a.tmps) = true) (hx : a.eval x = .func (.func f) #[] ca)
    (hcf : ∀ args w1, (callFunc f args).run P w1 = .ok (.enter f args) w1) (hargs : #[] ++ xs.map a.eval ++ ca = args)
    (h : Calls P f args w fun e w' => ∃ v, e = .returned v ∧ wpListIn F m P ops Q r (a.put dst v) w') : wpListIn F m P ops Q ({ dst, op := .call { callee := .value x, args := xs, argTypes := ats }, type := ty, pos, after, guard } :: r) a w := by
  unfold wpListIn
  rw [if_pos hw]
  refine ⟨fun f _ => hF.fn f, ?_⟩
  rw [semAt_nd rfl, execOp_call_val hx, hargs, hcf]
  refine ⟨fun hd => (by rw [hF.dp] at hd; cases hd), (callsIn_fw hF h).mono fun e w' ⟨v, he, h⟩ => ?_⟩
  subst he
  exact h
theorem wpI_load {ty : TypeId} {x : Operand} {g k : Nat} {T : TypeId} {l L : List Value} {d : TypeDesc} (hF : FW F) (ho : o.op = .load ty x) (hx : a.eval x = .pointer (some ⟨g, k, none⟩)) (hB : Box w g L T) (hl : (L.drop k).take l.length = l) (hu : P.underlying ty = some d) (hd : (match d with | .struct _ | .array _ _ => true | _ => false) = true)
    (hsz : (P.info? ty).map (·.size) = some l.length) (hw : Region.wanted o (yielded ops a.tmps) = true) (h : wpListIn F m P ops Q r (a.put o.dst (.agg l.toArray)) w) : wpListIn F m P ops Q (o :: r) a w :=
  wpI_val hF (by rw [ho]; rfl) hw (run_load_part ho hx (by have := hB.part k l.length; rw [hl] at this; exact this) hu hd hsz) h
/-- A row stored whole. -/
theorem run_store_row {ty : TypeId} {x y : Operand} {g : Nat} {T : TypeId} {l cs : List Value} (ho : o.op = .store ty x y) (hx : a.eval x = .pointer (some ⟨g, 0, none⟩)) (hy : a.eval y = .agg cs.toArray) (hB : Box w g l T) (hsz : (P.info? ty).map (·.size) = some cs.length)
    (hl : l.length = cs.length) (h1 : cs.toArray.all (·.oneCell') = true) : (execOp a.eval o).run P w = .ok .skip (w.setRow g cs.toArray) := by
  unfold execOp
  simp only [ho, hx, hy, Instr.storeAt, Instr.sureAddr, Sem.run_bind, Sem.run_pure, Result.andThen_ok, run_storeVar_row w g T ty l.toArray cs.toArray hB (by simpa using hsz) (by simpa using hl) h1]
theorem wpI_store {ty : TypeId} {x y : Operand} {g : Nat} {T : TypeId} {l cs : List Value} (hF : FW F) (ho : o.op = .store ty x y) (hx : a.eval x = .pointer (some ⟨g, 0, none⟩)) (hy : a.eval y = .agg cs.toArray) (hB : Box w g l T) (hsz : (P.info? ty).map (·.size) = some cs.length)
    (hl : l.length = cs.length) (h1 : cs.toArray.all (·.oneCell') = true) (hw : Region.wanted o (yielded ops a.tmps) = true) (h : wpListIn F m P ops Q r (a.put o.dst undef) (w.setRow g cs.toArray)) : wpListIn F m P ops Q (o :: r) a w :=
  wpI_do hF (by rw [ho]; rfl) hw (run_store_row ho hx hy hB hsz hl h1) h
theorem execOp_call_yield {dst : Option Tmp} {x : Operand} {l : Nat} {xs : Array Operand} {ats : Array TypeId} {ty : TypeId} {pos : String} {after : Array Edge} {guard : Option (Nat × Bool)} (hx : a.eval x = .func (.yield l) #[] #[]) :
    execOp a.eval { dst, op := .call { callee := .value x, args := xs, argTypes := ats }, type := ty, pos, after, guard } = Instr.yield l (#[] ++ xs.map a.eval ++ #[]) := by
  simp only [execOp, resolve, hx]; rfl
/-- A call of yield. -/
theorem wpI_yield {dst : Option Tmp} {x : Operand} {l : Nat} {xs : Array Operand} {ats : Array TypeId} {ty : TypeId} {pos : String} {after : Array Edge} {guard : Option (Nat × Bool)} {args : Array Value} {R : Ending → World → Prop} (hF : FW F)
    (hw : Region.wanted { dst, op := .call { callee := .value x, args := xs, argTypes := ats }, type := ty, pos, after, guard } (yielded ops a.tmps) = true) (hx : a.eval x = .func (.yield l) #[] #[]) (hargs : #[] ++ xs.map a.eval ++ #[] = args)
    (hY : YieldAt F (m - 1) P l args w R)
    (h : ∀ e w', R e w' → ∃ v, e = .returned v ∧ wpListIn F m P ops Q r (a.put dst v) w') : wpListIn F m P ops Q ({ dst, op := .call { callee := .value x, args := xs, argTypes := ats }, type := ty, pos, after, guard } :: r) a w := by
  unfold wpListIn
  rw [if_pos hw]
  refine ⟨fun f _ => hF.fn f, ?_⟩
  obtain ⟨fn, tmps, assign, body, hy, hR⟩ := hY
  rw [semAt_nd rfl, execOp_call_yield hx, hargs, hy]
  refine ⟨fun hd => (by rw [hF.dp] at hd; cases hd), hR.mono fun e w' hr => ?_⟩
  obtain ⟨v, rfl, h⟩ := h e w' hr
  exact h
end
theorem wpL_go {P : Program} {Q : Exit → Act → World → Prop} {ops : Array Oper} {o : Oper} {r : List Oper} {a : Act} {v : Value} {w w' : World} (hw : Region.wanted o (yielded ops a.tmps) = true) (h1 : (execOp a.eval o).run P w = .ok (.value v) w') (h : wpList P ops Q r (a.put o.dst v) w') : wpList P ops Q (o :: r) a w := by
  unfold wpList
  rw [if_pos hw]
  left
  simp only [Oper.wp, h1, Oper.upon]
  exact h
theorem wpL_part {P : Program} {Q : Exit → Act → World → Prop} {ops : Array Oper} {o : Oper} {r : List Oper} {a : Act} {w : World} {ty : TypeId} {x : Operand} {g k : Nat} {T : TypeId} {l L : List Value} {d : TypeDesc} (ho : o.op = .load ty x) (hx : a.eval x = .pointer (some ⟨g, k, none⟩)) (hB : Box w g L T) (hl : (L.drop k).take l.length = l) (hu : P.underlying ty = some d) (hd : (match d with | .struct _ | .array _ _ => true | _ => false) = true)
    (hsz : (P.info? ty).map (·.size) = some l.length) (hw : Region.wanted o (yielded ops a.tmps) = true) (h : wpList P ops Q r (a.put o.dst (.agg l.toArray)) w) : wpList P ops Q (o :: r) a w :=
  wpL_val hw (run_load_part ho hx (by have := hB.part k l.length; rw [hl] at this; exact this) hu hd hsz) h
theorem wpList_any {P : Program} {Q : Exit → Act → World → Prop} {ops : Array Oper} {r : List Oper} {a : Act} {w : World} (h : wpList P ops Q r a w) : wpList P ops Q r a w := h
theorem wpListIn_any {F : Fence} {m : Nat} {P : Program} {Q : Exit → Act → World → Prop} {ops : Array Oper} {r : List Oper} {a : Act} {w : World} (h : wpListIn F m P ops Q r a w) : wpListIn F m P ops Q r a w := h
theorem alloc_setRow (w : World) (cs cs' : Array Value) (T : TypeId) : (w.alloc (.cells cs T)).setRow w.heap.size cs' = w.alloc (.cells cs' T) := by
  unfold World.setRow World.alloc
  cases w with
  | mk heap tape drawn os output =>
    simp only [World.mk.injEq, and_true]
    apply Array.ext
    · simp
    · intro i h1 h2
      simp only [Array.getElem_modify]
      split
      · rename_i e; subst e; simp
      · rename_i e
        have : i < heap.size := by simp at h2; omega
        simp [Array.getElem_push, this]
theorem keepsFrom_below {B : Nat} {W W' : World} (h : Below W.heap.size W W') : KeepsFrom B W W' :=
  ⟨h.size, fun k o _ hk _ => (h.block k (Array.getElem?_eq_some_iff.1 hk).1).trans hk⟩
theorem keepsFrom_setRow {B g : Nat} {W : World} {l : List Value} {T : TypeId} (hB : Box W g l T) (cs : Array Value) : KeepsFrom B W (W.setRow g cs) :=
  ⟨by simp [World.setRow], fun k o _ hk ho => by
    by_cases e : k = g
    · subst e; rw [show W.heap[k]? = _ from hB] at hk; cases hk; cases ho
    · rw [setRow_other W g k cs e]; exact hk⟩
theorem box_own {β : Type} (b : Nat) (T : TypeId) (f : β → List Value) : Own (fun s W => Box W b (f s) T) := fun s X Y row hs hg hrow =>
  (hg.block b hs.lt (fun e' => by obtain ⟨o, ho, hc⟩ := hrow b e'.symm; rw [show X.heap[b]? = _ from hs] at ho; cases ho; cases hc)).trans hs
end Go.NP
namespace Go.NP
open Go Go.RowKit
set_option linter.unusedSimpArgs false
set_option linter.unusedVariables false
theorem At'.step {w w' : World} {b k : Nat} {l : List Value} (h : At' w b k l) (hb : b < w.heap.size) (hS : Below w.heap.size w w') : At' w' b k l := fun j v hv => by
  rw [(bcell hS).1 b _ hb]; exact h j v hv
section
variable {P : Program} {Q : Exit → Act → World → Prop} {ls es : List Nat} {Te : List (Nat × Option Tmp) → Act → Prop} {ops : Array Oper} {o : Oper} {r : List Oper} {acc : List (Nat × Option Tmp)} {a : Act} {i g k : Nat} {W w : World} {al : Al} {l cs : List Value} {T ty : TypeId} {x y : Operand} {d : TypeDesc}
theorem SeqO.at (ho : o.op = .load ty x) (hx : a.eval x = .pointer (some ⟨g, k, none⟩)) (hg : g < W.heap.size) (hB : At' W g k l) (hu : P.underlying ty = some d) (hd : (match d with | .struct _ | .array _ _ => true | _ => false) = true)
    (hsz : (P.info? ty).map (·.size) = some l.length) (hi : (!ls.contains i && !es.contains i && al.all fun e => e.1 != i) = true) (hw : Region.wanted o (yielded ops a.tmps) = true)
    (h2 : SeqO P ops Q (SAl W al) ls es Te (i + 1) r acc (a.put o.dst (.agg l.toArray))) : SeqO P ops Q (SAl W al) ls es Te i (o :: r) acc a :=
  SeqO.val hi hw (fun w hb => run_load_part ho hx (hB.step hg hb) hu hd hsz) h2
theorem wpL_at (ho : o.op = .load ty x) (hx : a.eval x = .pointer (some ⟨g, k, none⟩)) (hB : At' w g k l) (hu : P.underlying ty = some d) (hd : (match d with | .struct _ | .array _ _ => true | _ => false) = true)
    (hsz : (P.info? ty).map (·.size) = some l.length) (hw : Region.wanted o (yielded ops a.tmps) = true) (h : wpList P ops Q r (a.put o.dst (.agg l.toArray)) w) : wpList P ops Q (o :: r) a w :=
  wpL_val hw (run_load_part ho hx hB hu hd hsz) h
end
end Go.NP
namespace Go.NP
open Go Go.RowKit
set_option linter.unusedSimpArgs false
set_option linter.unusedVariables false
section
variable {P : Program} {Q : Exit → Act → World → Prop} {ls es : List Nat} {Te : List (Nat × Option Tmp) → Act → Prop} {ops : Array Oper} {o : Oper} {r : List Oper} {acc : List (Nat × Option Tmp)} {a : Act} {i g k : Nat} {W w : World} {Pr : Kl} {l cs : List Value} {T ty : TypeId} {x y : Operand} {d : TypeDesc}
theorem SeqO.atG (ho : o.op = .load ty x) (hx : a.eval x = .pointer (some ⟨g, k, none⟩)) (hg : g < W.heap.size) (hB : At' W g k l) (hu : P.underlying ty = some d) (hd : (match d with | .struct _ | .array _ _ => true | _ => false) = true)
    (hsz : (P.info? ty).map (·.size) = some l.length) (hi : (!ls.contains i && !es.contains i && Pr.all fun e => e.1 != i) = true) (hw : Region.wanted o (yielded ops a.tmps) = true)
    (h2 : SeqO P ops Q (SG W Pr) ls es Te (i + 1) r acc (a.put o.dst (.agg l.toArray))) : SeqO P ops Q (SG W Pr) ls es Te i (o :: r) acc a :=
  SeqO.valG hi hw (fun w hb => run_load_part ho hx (hB.step hg hb) hu hd hsz) h2
/-- An operation that makes a new row of cells. -/
theorem SeqO.newG {B n : Nat} (hi : (ls.contains i && !es.contains i) = true) (hone : ∀ e ∈ Pr, e.1 = i → e.2 = newR B n l T) (hw : Region.wanted o (yielded ops a.tmps) = true)
    (h3 : ∀ w, (execOp a.eval o).run P w = .ok (.value (.slice (some ⟨w.heap.size, 0, none⟩) n n)) (w.alloc (.cells l.toArray T))) (hB : B ≤ W.heap.size) (h2 : SeqO P ops Q (SG W Pr) ls es Te (i + 1) r (acc ++ [(i, o.dst)]) a) : SeqO P ops Q (SG W Pr) ls es Te i (o :: r) acc a := by
  simp only [Bool.and_eq_true, Bool.not_eq_true'] at hi
  unfold SeqO
  rw [if_pos hi.1]
  unfold LooseOr
  rw [if_neg (by rw [hi.2]; simp)]
  refine ⟨fun L u w hL hS K' hK => ?_, h2⟩
  rw [if_pos hw]
  simp only [Oper.wp, h3, Oper.upon]
  refine hK _ _ (SG.fill (hS.step ((Below.refl _ _).alloc (Nat.le_refl _) _)) hone ⟨w.heap.size, rfl, Nat.le_trans hB hS.1.size, Box.new rfl⟩)
end
end Go.NP
namespace Go.Proofs.YtbcjnckejkjfeaaGreat
set_option linter.unusedVariables false
set_option linter.unusedSimpArgs false
open Go.RowKit Go.NP Go.Maps
namespace QVm
/-- An integer that fits. -/
def wfI (n : Int) : Prop := (Lit.int .i64 n).wf = true
theorem wfI_small {n : Int} (h0 : -1000000 ≤ n) (h : n ≤ 1000000) : wfI n := by
  unfold wfI Lit.wf IntKind.min IntKind.max
  simp [IntKind.bits, IntKind.signed]
  omega
def RV : Value → Option (DataW Value × List MemPlace) := fun v => some (.held v, [])
def kl (n : Int) : Lit := .int .i64 n
theorem kyd : Keyed Tryz.prog 3 := int_keyed Tryz.underlying3
theorem keyK {n : Int} (h : wfI n) : keyOf Tryz.prog 3 (.int .i64 n) = some (kl n) := keyOf_int_mk Tryz.underlying3 h
theorem isKey (n : Int) : WideAt.IsKeyLit (kl n) := trivial
/-- A block that is a map from integers, of at most c entries. -/
structure VM (w : World) (b : Nat) (m : Int → Option Value) (c : Nat) : Prop where
  ex : ∃ D : DataW Value, w.ownsMap Tryz.prog 3 RV b c D ∧ ∀ n, wfI n → Maps.has D (kl n) = (m n).isSome ∧ ∀ v, m n = some v → ∀ z, D.atKey (kl n) z = .held v
theorem own_size {w : World} {b c : Nat} {D : DataW Value} (h : w.ownsMap Tryz.prog 3 RV b c D) : w.ownsMap Tryz.prog 3 RV b (Maps.size D) D := by
  obtain ⟨es, clock, hb, F, _, rfl⟩ := h
  exact ⟨es, clock, hb, F, by simp [Maps.size, length_sorted], rfl⟩
theorem VM.made (w : World) : VM (w.alloc (.map #[] 0)) w.heap.size (fun _ => none) 0 :=
  ⟨_, World.ownsMap_made _ _ _ _, fun n _ => ⟨rfl, fun v h => by cases h⟩⟩
theorem VM.lt {w : World} {b c : Nat} {m : Int → Option Value} (h : VM w b m c) : b < w.heap.size := by obtain ⟨D, hD, _⟩ := h; exact hD.lt
theorem VM.block {w w' : World} {b c : Nat} {m : Int → Option Value} (h : VM w b m c) (hb : w'.heap[b]? = w.heap[b]?) : VM w' b m c := by
  obtain ⟨D, ⟨es, clock, h1, r⟩, h2⟩ := h
  exact ⟨D, ⟨es, clock, hb.trans h1, r⟩, h2⟩
theorem VM.step {w w' : World} {b c : Nat} {m : Int → Option Value} (h : VM w b m c) (hS : Below w.heap.size w w') : VM w' b m c := h.block (hS.block b h.lt)
theorem VM.ext {w : World} {b c : Nat} {m m' : Int → Option Value} (h : VM w b m c) (he : ∀ n, wfI n → m n = m' n) : VM w b m' c := by
  obtain ⟨D, h1, h2⟩ := h
  exact ⟨D, h1, fun n hn => by rw [← he n hn]; exact h2 n hn⟩
theorem VM.mono {w : World} {b c c' : Nat} {m : Int → Option Value} (h : VM w b m c) (hc : c ≤ c') : VM w b m c' := by
  obtain ⟨D, h1, h2⟩ := h
  exact ⟨D, h1.mono hc, h2⟩
section
variable {w : World} {b c : Nat} {m : Int → Option Value} {n : Int} {T E : TypeId} {z : Value}
theorem VM.look (h : VM w b m c) (hn : wfI n) (hT : Tryz.prog.underlying T = some (.map 3 E)) (hz : (zeroValue E).run Tryz.prog w = .ok z w) :
    (Instr.lookup T (.map (some b)) (.int .i64 n) false).run Tryz.prog w = .ok ((m n).getD z) w := by
  obtain ⟨D, h1, h2⟩ := h
  obtain ⟨v, ps, hrun, hv⟩ := h1.lookup kyd hT hz (zd := .held z) (zp := []) rfl (keyK hn)
  obtain ⟨ha, hb⟩ := h2 n hn
  have hv' : DataW.held v = D.atKey (kl n) (.held z) := by simpa [RV] using congrArg (fun x => x.map Prod.fst) hv
  cases hm : m n with
  | some u =>
    rw [hb u hm] at hv'
    cases hv'
    exact hrun
  | none =>
    rw [hm] at ha
    rw [Maps.atKey_of_not_has ha] at hv'
    cases hv'
    exact hrun
theorem VM.look_ok (h : VM w b m c) (hn : wfI n) (hT : Tryz.prog.underlying T = some (.map 3 E)) (hz : (zeroValue E).run Tryz.prog w = .ok z w) :
    (Instr.lookup T (.map (some b)) (.int .i64 n) true).run Tryz.prog w = .ok (.tuple #[(m n).getD z, .bool (m n).isSome]) w := by
  obtain ⟨D, h1, h2⟩ := h
  obtain ⟨v, ps, hrun, hv⟩ := h1.look_ok kyd hT hz (zd := .held z) (zp := []) rfl (keyK hn)
  obtain ⟨ha, hb⟩ := h2 n hn
  have hv' : DataW.held v = D.atKey (kl n) (.held z) := by simpa [RV] using congrArg (fun x => x.map Prod.fst) hv
  rw [ha] at hrun
  cases hm : m n with
  | some u =>
    rw [hb u hm] at hv'
    rw [hm] at hrun
    cases hv'
    exact hrun
  | none =>
    rw [hm] at ha hrun
    rw [Maps.atKey_of_not_has ha] at hv'
    cases hv'
    exact hrun
/-- A map with one entry laid anew. -/
def updV (m : Int → Option Value) (n : Int) (v : Value) : Int → Option Value := fun k => if k = n then some v else m k
theorem VM.put (h : VM w b m c) (hn : wfI n) (hc : c < maxLen) (hT : Tryz.prog.underlying T = some (.map 3 E)) (v : Value) :
    ∃ w', (Instr.mapUpdate T (.map (some b)) (.int .i64 n) v).run Tryz.prog w = .ok () w' ∧ VM w' b (updV m n v) (if (m n).isSome then c else c + 1) ∧ w.mapTurned w' b := by
  obtain ⟨D, h1, h2⟩ := h
  have hle := h1.size_le
  obtain ⟨w', hrun, r1, r2⟩ := (own_size h1).store kyd hT (by omega) (d := .held v) (ps := []) (keyK hn) rfl
  have hk : Maps.IsMap D := h1.isMap
  refine ⟨w', hrun, ⟨_, (own_size r1).mono ?_, fun k hkw => ?_⟩, r2⟩
  · rw [Maps.size_put (h1.tidy kyd), (h2 n hn).1]
    split <;> omega
  · unfold updV
    by_cases e : k = n
    · subst e
      rw [if_pos rfl]
      exact ⟨Maps.has_put_same hk (isKey _) _, fun u hu z => by cases hu; exact Maps.atKey_put_same hk (isKey _) _ _⟩
    · have hne : kl k ≠ kl n := fun h => e (by injection h)
      rw [if_neg e]
      refine ⟨by rw [Maps.has_put_other hne]; exact (h2 k hkw).1, fun u hu z => ?_⟩
      rw [Maps.atKey_put_other hne]
      exact (h2 k hkw).2 u hu z
theorem wpL_put {o : Oper} {r : List Oper} {ops : Array Oper} {a : Act} {Q : Exit → Act → World → Prop} {x y mo : Operand} {v : Value} (hgd : o.guard = none) (ho : o.op = .mapUpdate T mo x y) (hm : a.eval mo = .map (some b)) (hx : a.eval x = .int .i64 n) (hy : a.eval y = v)
    (h : VM w b m c) (hn : wfI n) (hc : c < maxLen) (hT : Tryz.prog.underlying T = some (.map 3 E))
    (hK : ∀ w', VM w' b (updV m n v) (if (m n).isSome then c else c + 1) → w.mapTurned w' b → wpList Tryz.prog ops Q r (a.put o.dst undef) w') : wpList Tryz.prog ops Q (o :: r) a w := by
  refine wpList_plain hgd fun K' hK' => ?_
  obtain ⟨w', hrun, r1, r2⟩ := h.put hn hc hT v
  unfold Oper.wp
  simp [execOp, ho, hm, hx, hy, hrun, Result.andThen]
  exact hK' _ _ (hK w' r1 r2)
/-- The keys of a map, sorted: those of a rising list that holds them. -/
theorem VM.keys (h : VM w b m c) {L : List Int} (hL : L.Pairwise (· < ·)) (hm : ∀ x, x ∈ L ↔ wfI x ∧ (m x).isSome = true) :
    ∃ D : DataW Value, w.ownsMap Tryz.prog 3 RV b c D ∧ ∀ ss : List Int, ss.Perm (intKeys D) → ss.mergeSort leI = L ∧ ss.length = L.length := by
  obtain ⟨D, h1, h2⟩ := h
  refine ⟨D, h1, fun ss hss => ?_⟩
  have hwf := intKeys_wf h1 Tryz.underlying3
  obtain ⟨es, hD, hp, _⟩ := h1.entries kyd
  obtain ⟨es', hD', hko⟩ := h1.keysOf
  obtain rfl : es = es' := by rw [hD] at hD'; simpa using hD'
  subst hD
  have hk : ∀ p ∈ es, ∃ x, p.1 = .int .i64 x := fun p hp => by obtain ⟨v, hv⟩ := hko p hp; obtain ⟨x, _, hx, _⟩ := Maps.keyOf_i64 Tryz.underlying3 hv; exact ⟨x, hx⟩
  have hnd : L.Nodup := hL.imp fun h => by omega
  have hin : ∀ x, Maps.has (DataW.map es) (.int .i64 x) = true → wfI x := fun x hx => by
    rw [Maps.has_eq] at hx
    obtain ⟨p, hp, hs⟩ := List.any_eq_true.1 hx
    obtain ⟨y, hy⟩ := hk p hp
    rw [hy] at hs
    have e : y = x := by simpa [Lit.sameKey] using hs
    subst e
    refine hwf y (List.mem_map.2 ⟨p, hp, ?_⟩)
    rw [hy]; rfl
  have hperm : L.Perm (intKeys (DataW.map es)) := perm_intKeys hp hk hnd fun x => by
    rw [hm]
    constructor
    · rintro ⟨a, b⟩
      exact (h2 x a).1.trans b
    · intro hx
      exact ⟨hin x hx, (h2 x (hin x hx)).1.symm.trans hx⟩
  have e := hss.trans hperm.symm
  refine ⟨?_, e.length_eq⟩
  rw [mergeSort_of_perm_i e]
  exact List.mergeSort_of_pairwise (hL.imp fun h => by simp [leI]; omega)
end
theorem Turned.below {w w' w0 : World} {b B : Nat} (h : w.mapTurned w' b) (hB : B ≤ b) (h0 : Below B w0 w) : Below B w0 w' := by
  have g := h.grown
  obtain ⟨_, _, _, _, hb, _⟩ := h
  have hlt := (Array.getElem?_eq_some_iff.1 hb).1
  exact h0.trans ⟨g.os, g.tape, g.output, g.size, fun k hk => g.block k (by omega) (by simp; omega)⟩
theorem Turned.block {w w' : World} {b k : Nat} (h : w.mapTurned w' b) (hk : k ≠ b) : w'.heap[k]? = w.heap[k]? := by
  obtain ⟨es, cl, es', cl', hb, rfl⟩ := h
  simp only [ChangeMaps.setBlock]
  rw [Array.getElem?_setIfInBounds, if_neg (fun e => hk e.symm)]
end QVm
end Go.Proofs.YtbcjnckejkjfeaaGreat
namespace Go.Proofs.YtbcjnckejkjfeaaGreat
set_option linter.unusedVariables false
set_option linter.unusedSimpArgs false
open Go.RowKit Go.NP
/-- A pair. -/
structure Pr where
  a : Int
  b : Int
  deriving DecidableEq
def prv (p : Pr) : List Value := [.int .i64 p.a, .int .i64 p.b]
theorem get_lt {α : Type} {l : List α} {k : Nat} {x : α} (h : l[k]? = some x) : k < l.length := by
  rcases Nat.lt_or_ge k l.length with h' | h'
  · exact h'
  · rw [List.getElem?_eq_none h'] at h; cases h
theorem take_snoc {α : Type} {l : List α} {k : Nat} {x : α} (h : l[k]? = some x) : l.take (k + 1) = l.take k ++ [x] := by
  have hk := get_lt h
  rw [List.take_succ_eq_append_getElem hk]
  rw [List.getElem?_eq_getElem hk] at h; cases h; rfl
/-- A row of pairs. -/
def SAt (w : World) (b off : Nat) (l : List Pr) : Prop := ∀ (k : Nat) s, l[k]? = some s → At' w b (off + k * 2) (prv s)
theorem SAt.step {w w' : World} {b off : Nat} {l : List Pr} (h : SAt w b off l) (hb : b < w.heap.size) (hS : Below w.heap.size w w') : SAt w' b off l := fun k s hk => (h k s hk).step hb hS
/-- A slice of pairs. -/
def SlS (w : World) (A : Option Addr) (n : Nat) (l : List Pr) : Prop := l.length = n ∧ (0 < n → ∃ b off, A = some ⟨b, off, none⟩ ∧ b < w.heap.size ∧ SAt w b off l)
theorem SlS.step {w w' : World} {A : Option Addr} {n : Nat} {l : List Pr} (h : SlS w A n l) (hS : Below w.heap.size w w') : SlS w' A n l :=
  ⟨h.1, fun hn => by obtain ⟨b, off, h1, h2, h3⟩ := h.2 hn; exact ⟨b, off, h1, by have := hS.size; omega, h3.step h2 hS⟩⟩
/-- The cells of pairs. -/
def prvs (l : List Pr) : List Value := l.flatMap prv
theorem prvs_len (l : List Pr) : (prvs l).length = l.length * 2 := by
  induction l with
  | nil => rfl
  | cons x r ih => rw [prvs, List.flatMap_cons, List.length_append, List.length_cons]; rw [prvs] at ih; rw [ih]; simp [prv]; omega
theorem prvs_append (l m : List Pr) : prvs (l ++ m) = prvs l ++ prvs m := by unfold prvs; rw [List.flatMap_append]
theorem prvs_get : ∀ (l : List Pr) (k : Nat) (s : Pr) (j : Nat) (v : Value), l[k]? = some s → (prv s)[j]? = some v → (prvs l)[k * 2 + j]? = some v
  | [], _, _, _, _, h, _ => by cases h
  | x :: r, 0, s, j, v, h, hv => by
    obtain rfl : x = s := by simpa using h
    rw [prvs, List.flatMap_cons, Nat.zero_mul, Nat.zero_add]
    have hj : j < (prv x).length := get_lt hv
    rw [List.getElem?_append_left hj]; exact hv
  | x :: r, k + 1, s, j, v, h, hv => by
    have h' : r[k]? = some s := by simpa using h
    have ih := prvs_get r k s j v h' hv
    rw [prvs, List.flatMap_cons]
    rw [show (k + 1) * 2 + j = (prv x).length + (k * 2 + j) by simp [prv]; omega, List.getElem?_append_right (by omega), Nat.add_sub_cancel_left]
    exact ih
theorem prvs_at {l : List Pr} {j : Nat} {v : Value} (h : (prvs l)[j]? = some v) : ∃ s, l[j / 2]? = some s ∧ (prv s)[j % 2]? = some v := by
  have hj : j < l.length * 2 := by rw [← prvs_len]; exact get_lt h
  have hk : j / 2 < l.length := by omega
  refine ⟨l[j / 2], List.getElem?_eq_getElem hk, ?_⟩
  have h5 : j % 2 < (prv l[j / 2]).length := by simp [prv]; omega
  have := prvs_get l (j / 2) l[j / 2] (j % 2) _ (List.getElem?_eq_getElem hk) (List.getElem?_eq_getElem h5)
  rw [show j / 2 * 2 + j % 2 = j by omega, h] at this
  rw [List.getElem?_eq_getElem h5, ← Option.some.inj this]
theorem prv_one {s : Pr} : ∀ v ∈ prv s, v.oneCell' = true := by simp [prv, Value.oneCell']
theorem prvs_one {l : List Pr} : ∀ v ∈ prvs l, v.oneCell' = true := fun v hv => by
  obtain ⟨s, _, h⟩ := List.mem_flatMap.1 hv
  exact prv_one v h
/-- A slice of one's own that holds these pairs. -/
def OwnS (w : World) (base : Nat) (v : Value) (l : List Pr) : Prop := w.ownsRow base 56 2 v l.length (prvs l)
theorem OwnS.sl {w : World} {base : Nat} {v : Value} {l : List Pr} (h : OwnS w base v l) : ∃ A cap, v = .slice A l.length cap ∧ SlS w A l.length l := by
  rcases h.2 with ⟨rfl, h0⟩ | ⟨g, cap, cur, rfl, hb, hg, hc, hm, hsz, hx⟩
  · exact ⟨none, 0, by rw [h0], rfl, fun h => absurd h (by omega)⟩
  · refine ⟨some ⟨g, 0, none⟩, cap, rfl, rfl, fun _ => ⟨g, 0, rfl, (Array.getElem?_eq_some_iff.1 hg).1, fun k s hk j v hv => ?_⟩⟩
    have h1 := prvs_get l k s j v hk hv
    rw [← hx] at h1
    have h2 : k * 2 + j < l.length * 2 := by have := get_lt h1; rw [hx, prvs_len] at this; exact this
    rw [List.getElem?_take_of_lt h2] at h1
    simp only [World.cell?, hg, Nat.zero_add]
    simpa using h1
theorem OwnS.nil (w : World) (base : Nat) : OwnS w base (.slice none 0 0) [] := ⟨rfl, .inl ⟨rfl, rfl⟩⟩
theorem OwnS.step {w w' : World} {base : Nat} {v : Value} {l : List Pr} (h : OwnS w base v l) (hS : Below w.heap.size w w') : OwnS w' base v l := by
  refine ⟨h.1, ?_⟩
  rcases h.2 with h1 | ⟨g, cap, cur, h1, hb, hg, h2⟩
  · exact .inl h1
  · exact .inr ⟨g, cap, cur, h1, hb, (hS.block g (Array.getElem?_eq_some_iff.1 hg).1).trans hg, h2⟩
theorem OwnS.mono {w : World} {base base' : Nat} {v : Value} {l : List Pr} (h : OwnS w base v l) (hb : base' ≤ base) : OwnS w base' v l := by
  refine ⟨h.1, ?_⟩
  rcases h.2 with h1 | ⟨g, cap, cur, h1, hb', h2⟩
  · exact .inl h1
  · exact .inr ⟨g, cap, cur, h1, by omega, h2⟩
theorem ownBlock_ge {w : World} {base : Nat} {v : Value} {l : List Pr} (h : OwnS w base v l) : ∀ j, v.ownBlock = some j → base ≤ j := fun j hj => by
  rcases h.2 with ⟨rfl, _⟩ | ⟨g, cap, cur, rfl, hb, _⟩
  · simp [Value.ownBlock] at hj
  · obtain rfl : g = j := by simpa [Value.ownBlock] using hj
    exact hb
theorem infoPa : (Tryz.prog.info? 56).map (fun i => (i.zero, i.size, i.bytes)) = some (some (.agg #[.int .i64 0, .int .i64 0]), 2, 16) := by kernel_rfl
theorem SlS.news {w : World} {ad : Addr} {n : Nat} {l : List Pr} (h : SlS w (some ad) n l) : ∀ j u, (prvs l)[j]? = some u → w.cell? (ad.add j) = some u := fun j u hj => by
  obtain ⟨s, h1, h2⟩ := prvs_at hj
  have hl := get_lt h1
  obtain ⟨b, off, e, hb, hs⟩ := h.2 (by have := h.1; omega)
  cases e
  have h3 := hs _ s h1 _ u h2
  have hadd : (⟨b, off, none⟩ : Addr).add j = ⟨b, off + j, none⟩ := by unfold Addr.add; split <;> simp_all
  rw [hadd, show off + j = off + j / 2 * 2 + j % 2 by omega]; exact h3
theorem own_new (w : World) (l : List Pr) (h : l.length ≤ 1000) : OwnS (w.alloc (.cells (prvs l).toArray 56)) w.heap.size (.slice (some ⟨w.heap.size, 0, none⟩) l.length l.length) l := by
  have hl := prvs_len l
  refine ⟨hl, .inr ⟨w.heap.size, l.length, (prvs l).toArray, rfl, Nat.le_refl _, ?_, Nat.le_refl _, ?_, by simpa using hl, ?_⟩⟩
  · exact Box.new rfl
  · simp [maxLen]; omega
  · rw [List.take_of_length_le (by simpa using Nat.le_of_eq hl)]
theorem own_at {w : World} {base : Nat} {v : Value} {l : List Pr} (n : Nat) (h : OwnS w base v l) (hn : l.length = n) (h0 : 0 < n) : ∃ b off c, v = .slice (some ⟨b, off, none⟩) n c ∧ b < w.heap.size ∧ SAt w b off l := by
  obtain ⟨A, c, h1, h2⟩ := h.sl
  obtain ⟨b, off, rfl, hb, hs⟩ := h2.2 (by omega)
  exact ⟨b, off, c, by rw [h1, hn], hb, hs⟩
theorem wpL_app {ops : Array Oper} {r : List Oper} {o : Oper} {a : Act} {Q : Exit → Act → World → Prop} {w : World} {base g : Nat} {v : Value} {l : List Pr} {t : Pr} (hgd : o.guard = none) (s x : Operand)
    (ho : o.op = .call { callee := .builtin .append, args := #[s, x], argTypes := #[44, 44] }) (hs : a.eval s = v) (hown : OwnS w base v l) (hx : a.eval x = .slice (some ⟨g, 0, none⟩) 1 1) (hat : At' w g 0 (prv t)) (hl : l.length ≤ 100000) (hb : base ≤ w.heap.size)
    (h : ∀ v' w', OwnS w' base v' (l ++ [t]) → (∀ w0, Below base w0 w → Below base w0 w') → wpList Tryz.prog ops Q r (a.put o.dst v') w') : wpList Tryz.prog ops Q (o :: r) a w := by
  obtain ⟨i0, hi0, hz0, hz1, hz2⟩ := info_parts infoPa
  refine wpList_append_own _ hgd s x 44 ho base 56 i0 (.agg #[.int .i64 0, .int .i64 0]) 2 16 Tryz.underlying44 hi0 hz0 hz1 hz2 rfl (by decide) v l.length (prvs l) hs hown ⟨g, 0, none⟩ 1 1 (prv t) hx rfl (fun j u hj => ?_) prv_one (by unfold maxLen; omega) (by omega) hb ?_
  · have := hat j u hj
    have hadd : (⟨g, 0, none⟩ : Addr).add j = ⟨g, 0 + j, none⟩ := by unfold Addr.add; split <;> simp_all
    rw [hadd]; exact this
  · intro v' w' h1 h2 _
    refine h v' w' ?_ fun w0 hB => hB.grown h2 hb fun k hk => ownBlock_ge hown k hk
    unfold OwnS
    rw [prvs_append, List.length_append]
    simpa [prvs] using h1
/-- A slice of pairs, nil only where it has no room. -/
def SlC (w : World) (A : Option Addr) (n cap : Nat) (l : List Pr) : Prop := SlS w A n l ∧ (A = none → cap = 0)
theorem wpL_all {ops : Array Oper} {r : List Oper} {o : Oper} {a : Act} {Q : Exit → Act → World → Prop} {w : World} {base : Nat} {v : Value} {m l : List Pr} {A : Option Addr} {n cap : Nat} (hgd : o.guard = none) (s x : Operand)
    (ho : o.op = .call { callee := .builtin .append, args := #[s, x], argTypes := #[44, 44] }) (hs : a.eval s = v) (hown : OwnS w base v m) (hx : a.eval x = .slice A n cap) (hl : SlC w A n cap l) (hm : m.length ≤ 100000) (hn : n ≤ 100000) (hb : base ≤ w.heap.size)
    (h : ∀ v' w', OwnS w' base v' (m ++ l) → (∀ w0, Below base w0 w → Below base w0 w') → wpList Tryz.prog ops Q r (a.put o.dst v') w') : wpList Tryz.prog ops Q (o :: r) a w := by
  obtain ⟨i0, hi0, hz0, hz1, hz2⟩ := info_parts infoPa
  cases A with
  | some ad =>
    have hll := hl.1.1
    refine wpList_append_own _ hgd s x 44 ho base 56 i0 (.agg #[.int .i64 0, .int .i64 0]) 2 16 Tryz.underlying44 hi0 hz0 hz1 hz2 rfl (by decide) v m.length (prvs m) hs hown ad n cap (prvs l) hx (by rw [prvs_len, hll]) (SlS.news hl.1) prvs_one (by unfold maxLen; omega) (by omega) hb ?_
    intro v' w' h1 h2 _
    refine h v' w' ?_ fun w0 hB => hB.grown h2 hb fun k hk => ownBlock_ge hown k hk
    unfold OwnS
    rw [prvs_append, List.length_append, hll]
    exact h1
  | none =>
    have hc := hl.2 rfl
    have h0 : l = [] := by
      rcases Nat.eq_zero_or_pos n with h0 | h0
      · exact List.eq_nil_of_length_eq_zero (by rw [hl.1.1]; exact h0)
      · obtain ⟨_, _, e, _⟩ := hl.1.2 h0; cases e
    subst h0
    have hn0 : n = 0 := hl.1.1.symm
    subst hc; subst hn0
    refine wpList_append_own_none hgd s x 44 ho base 56 i0 2 Tryz.underlying44 hi0 v m.length (prvs m) hs hown hx ?_
    exact h v w (by rw [List.append_nil]; exact hown) (fun w0 hB => hB)
end Go.Proofs.YtbcjnckejkjfeaaGreat
namespace Go.NP
set_option linter.unusedVariables false
set_option linter.unusedSimpArgs false
/-- A node: a bound, or two nodes under one. -/
structure Nd where
  fat : Bd
  b : Bd
  n : Int
  u : Int
  l : Int
  r : Int
  h : Int
namespace TrP
abbrev M := Int → Nd
def st (m : M) (i : Int) (x : Nd) : M := fun k => if k = i then x else m k
theorem st_at (m : M) (i : Int) (x : Nd) : st m i x i = x := if_pos rfl
theorem st_ne {m : M} {i k : Int} {x : Nd} (h : k ≠ i) : st m i x k = m k := if_neg h
inductive Tr where
  | leaf (i : Int)
  | node (i : Int) (l r : Tr)
namespace Tr
def ix : Tr → Int
  | leaf i => i
  | node i _ _ => i
/-- All places. -/
def all : Tr → List Int
  | leaf i => [i]
  | node i l r => i :: (l.all ++ r.all)
/-- The leaves. -/
def lv : Tr → List Int
  | leaf i => [i]
  | node _ l r => l.lv ++ r.lv
theorem ix_all : ∀ t : Tr, t.ix ∈ t.all
  | leaf i => List.mem_singleton.2 rfl
  | node i l r => List.mem_cons_self ..
theorem lv_all : ∀ (t : Tr) (x : Int), x ∈ t.lv → x ∈ t.all
  | leaf i, x, h => h
  | node i l r, x, h => by
    rcases List.mem_append.1 h with h | h
    · exact List.mem_cons_of_mem _ (List.mem_append_left _ (lv_all l x h))
    · exact List.mem_cons_of_mem _ (List.mem_append_right _ (lv_all r x h))
end Tr
open Tr
/-- The nodes hang as the tree says; u: what hangs above. -/
def Rep (m : M) : Int → Tr → Prop
  | u, leaf i => (m i).u = u ∧ 1 ≤ (m i).n
  | u, node i l r => (m i).u = u ∧ (m i).n = 0 ∧ (m i).l = l.ix ∧ (m i).r = r.ix ∧ Rep m i l ∧ Rep m i r
/-- What a node holds, and its height, are reckoned. -/
def Fit (m : M) : Tr → Prop
  | leaf i => (m i).h = 0 ∧ holds (m i).fat (m i).b = true
  | node i l r => (m i).fat = join (m l.ix).fat (m r.ix).fat ∧ (m i).h = 1 + max (m l.ix).h (m r.ix).h ∧ Fit m l ∧ Fit m r
theorem Rep.up {m : M} {u : Int} : ∀ {t : Tr}, Rep m u t → (m t.ix).u = u
  | leaf i, h => h.1
  | node i l r, h => h.1
theorem Rep.frame {m m' : M} : ∀ {t : Tr} {u : Int}, (∀ i ∈ t.all, m' i = m i) → Rep m u t → Rep m' u t
  | leaf i, u, he, h => by
    have := he i (List.mem_singleton.2 rfl)
    unfold Rep at *
    rw [this]; exact h
  | node i l r, u, he, h => by
    have h0 := he i (List.mem_cons_self ..)
    unfold Rep at *
    rw [h0]
    exact ⟨h.1, h.2.1, h.2.2.1, h.2.2.2.1, Rep.frame (fun j hj => he j (List.mem_cons_of_mem _ (List.mem_append_left _ hj))) h.2.2.2.2.1, Rep.frame (fun j hj => he j (List.mem_cons_of_mem _ (List.mem_append_right _ hj))) h.2.2.2.2.2⟩
theorem Fit.frame {m m' : M} : ∀ {t : Tr}, (∀ i ∈ t.all, (m' i).fat = (m i).fat ∧ (m' i).b = (m i).b ∧ (m' i).h = (m i).h) → Fit m t → Fit m' t
  | leaf i, he, h => by
    have := he i (List.mem_singleton.2 rfl)
    unfold Fit at *
    rw [this.1, this.2.1, this.2.2]; exact h
  | node i l r, he, h => by
    have h0 := he i (List.mem_cons_self ..)
    have hl := he l.ix (List.mem_cons_of_mem _ (List.mem_append_left _ l.ix_all))
    have hr := he r.ix (List.mem_cons_of_mem _ (List.mem_append_right _ r.ix_all))
    unfold Fit at *
    rw [h0.1, h0.2.2, hl.1, hl.2.2, hr.1, hr.2.2]
    exact ⟨h.1, h.2.1, Fit.frame (fun j hj => he j (List.mem_cons_of_mem _ (List.mem_append_left _ hj))) h.2.2.1, Fit.frame (fun j hj => he j (List.mem_cons_of_mem _ (List.mem_append_right _ hj))) h.2.2.2⟩
/-- A tree hung under another node: only its top has turned. -/
theorem Rep.reup {m m' : M} {t : Tr} {u u' : Int} (h : Rep m u t) (hnd : t.all.Nodup) (he : ∀ i ∈ t.all, i ≠ t.ix → m' i = m i) (ht : m' t.ix = { m t.ix with u := u' }) : Rep m' u' t := by
  cases t with
  | leaf i => unfold Rep at *; simp only [ix] at ht; rw [ht]; exact ⟨rfl, h.2⟩
  | node i l r =>
    simp only [ix] at ht he
    unfold Rep at *
    rw [ht]
    have hn := List.nodup_cons.1 hnd
    exact ⟨rfl, h.2.1, h.2.2.1, h.2.2.2.1,
      Rep.frame (fun j hj => he j (List.mem_cons_of_mem _ (List.mem_append_left _ hj)) (fun e => hn.1 (by rw [← e]; exact List.mem_append_left _ hj))) h.2.2.2.2.1,
      Rep.frame (fun j hj => he j (List.mem_cons_of_mem _ (List.mem_append_right _ hj)) (fun e => hn.1 (by rw [← e]; exact List.mem_append_right _ hj))) h.2.2.2.2.2⟩
theorem Fit.ok {m : M} : ∀ {t : Tr}, Fit m t → (m t.ix).fat.ok
  | leaf i, h => (holds_iff.1 h.2).1
  | node i l r, h => by
    have hl := Fit.ok h.2.2.1; have hr := Fit.ok h.2.2.2
    show (m i).fat.ok
    rw [h.1]; exact join_isok hl hr
theorem holds_trans {a b c : Bd} (h1 : holds a b = true) (h2 : holds b c = true) : holds a c = true := by
  rw [holds_iff] at *
  obtain ⟨ha, hb, h3, h4⟩ := h1
  obtain ⟨_, hc, h5, h6⟩ := h2
  unfold Pt.le at *
  exact ⟨ha, hc, by omega, by omega⟩
/-- A node holds what is under it. -/
theorem Fit.under {m : M} : ∀ {t : Tr}, Fit m t → ∀ j ∈ t.lv, holds (m t.ix).fat (m j).b = true
  | leaf i, h, j, hj => by obtain rfl := List.mem_singleton.1 hj; exact h.2
  | node i l r, h, j, hj => by
    have hl := Fit.ok h.2.2.1; have hr := Fit.ok h.2.2.2
    show holds (m i).fat _ = true
    rw [h.1]
    rcases List.mem_append.1 hj with hj | hj
    · exact holds_trans (holds_join_l hl hr) (Fit.under h.2.2.1 j hj)
    · exact holds_trans (holds_join_r hl hr) (Fit.under h.2.2.2 j hj)
theorem Fit.high {m : M} : ∀ {t : Tr}, Fit m t → 0 ≤ (m t.ix).h
  | leaf i, h => by show 0 ≤ (m i).h; rw [h.1]; exact Int.le_refl _
  | node i l r, h => by
    have := Fit.high h.2.2.1
    show 0 ≤ (m i).h
    rw [h.2.1]; omega
/-- What is higher than nought is two. -/
theorem Fit.two {m : M} {t : Tr} (h : Fit m t) (hh : 0 < (m t.ix).h) : ∃ i l r, t = node i l r := by
  cases t with
  | leaf i => have := h.1; simp only [ix] at hh; omega
  | node i l r => exact ⟨i, l, r, rfl⟩
/-- A tree with a hole. -/
inductive Cx where
  | top
  | inl (i : Int) (c : Cx) (r : Tr)
  | inr (i : Int) (l : Tr) (c : Cx)
namespace Cx
def up : Cx → Int
  | top => -1
  | inl i _ _ => i
  | inr i _ _ => i
def all : Cx → List Int
  | top => []
  | inl i c r => i :: (r.all ++ c.all)
  | inr i l c => i :: (l.all ++ c.all)
def lv : Cx → List Int
  | top => []
  | inl _ c r => r.lv ++ c.lv
  | inr _ l c => l.lv ++ c.lv
def fill : Cx → Tr → Tr
  | top, t => t
  | inl i c r, t => c.fill (node i t r)
  | inr i l c, t => c.fill (node i l t)
/-- The whole's top, when k is in the hole. -/
def root : Cx → Int → Int
  | top, k => k
  | inl i c _, _ => c.root i
  | inr i _ c, _ => c.root i
def len : Cx → Nat
  | top => 0
  | inl _ c _ => c.len + 1
  | inr _ _ c => c.len + 1
end Cx
open Cx
/-- The nodes around the hole hang as the tree says; k is in the hole. -/
def RepC (m : M) : Cx → Int → Prop
  | top, _ => True
  | inl i c r, k => (m i).u = c.up ∧ (m i).n = 0 ∧ (m i).l = k ∧ (m i).r = r.ix ∧ Rep m i r ∧ RepC m c i
  | inr i l c, k => (m i).u = c.up ∧ (m i).n = 0 ∧ (m i).l = l.ix ∧ (m i).r = k ∧ Rep m i l ∧ RepC m c i
/-- What hangs beside the way up is reckoned. -/
def FitC (m : M) : Cx → Prop
  | top => True
  | inl _ c r => Fit m r ∧ FitC m c
  | inr _ l c => Fit m l ∧ FitC m c
theorem RepC.frame {m m' : M} : ∀ {c : Cx} {k : Int}, (∀ i ∈ c.all, m' i = m i) → RepC m c k → RepC m' c k
  | top, _, _, _ => trivial
  | inl i c r, k, he, h => by
    have h0 := he i (List.mem_cons_self ..)
    unfold RepC at *
    rw [h0]
    exact ⟨h.1, h.2.1, h.2.2.1, h.2.2.2.1, Rep.frame (fun j hj => he j (List.mem_cons_of_mem _ (List.mem_append_left _ hj))) h.2.2.2.2.1, RepC.frame (fun j hj => he j (List.mem_cons_of_mem _ (List.mem_append_right _ hj))) h.2.2.2.2.2⟩
  | inr i l c, k, he, h => by
    have h0 := he i (List.mem_cons_self ..)
    unfold RepC at *
    rw [h0]
    exact ⟨h.1, h.2.1, h.2.2.1, h.2.2.2.1, Rep.frame (fun j hj => he j (List.mem_cons_of_mem _ (List.mem_append_left _ hj))) h.2.2.2.2.1, RepC.frame (fun j hj => he j (List.mem_cons_of_mem _ (List.mem_append_right _ hj))) h.2.2.2.2.2⟩
theorem FitC.frame {m m' : M} : ∀ {c : Cx}, (∀ i ∈ c.all, (m' i).fat = (m i).fat ∧ (m' i).b = (m i).b ∧ (m' i).h = (m i).h) → FitC m c → FitC m' c
  | top, _, _ => trivial
  | inl i c r, he, h => ⟨Fit.frame (fun j hj => he j (List.mem_cons_of_mem _ (List.mem_append_left _ hj))) h.1, FitC.frame (fun j hj => he j (List.mem_cons_of_mem _ (List.mem_append_right _ hj))) h.2⟩
  | inr i l c, he, h => ⟨Fit.frame (fun j hj => he j (List.mem_cons_of_mem _ (List.mem_append_left _ hj))) h.1, FitC.frame (fun j hj => he j (List.mem_cons_of_mem _ (List.mem_append_right _ hj))) h.2⟩
theorem fill_all : ∀ (c : Cx) (t : Tr), (c.fill t).all.Perm (t.all ++ c.all)
  | top, t => by simp [fill, Cx.all]
  | inl i c r, t => by
    refine (fill_all c (node i t r)).trans ?_
    simp only [Tr.all, Cx.all, List.cons_append, List.append_assoc]
    exact (List.perm_middle (l₁ := t.all) (a := i) (l₂ := r.all ++ c.all)).symm
  | inr i l c, t => by
    refine (fill_all c (node i l t)).trans ?_
    simp only [Tr.all, Cx.all, List.cons_append, List.append_assoc]
    refine List.Perm.trans ?_ (List.perm_middle (l₁ := t.all) (a := i) (l₂ := l.all ++ c.all)).symm
    refine List.Perm.cons i ?_
    rw [← List.append_assoc, ← List.append_assoc]
    exact (List.perm_append_comm (l₁ := l.all) (l₂ := t.all)).append_right c.all
theorem fill_lv : ∀ (c : Cx) (t : Tr), (c.fill t).lv.Perm (t.lv ++ c.lv)
  | top, t => by simp [fill, Cx.lv]
  | inl i c r, t => by
    refine (fill_lv c (node i t r)).trans ?_
    simp only [Tr.lv, Cx.lv, List.append_assoc]
    exact List.Perm.refl _
  | inr i l c, t => by
    refine (fill_lv c (node i l t)).trans ?_
    simp only [Tr.lv, Cx.lv]
    rw [← List.append_assoc]
    exact (List.perm_append_comm (l₁ := l.lv) (l₂ := t.lv)).append_right c.lv
theorem fill_ix : ∀ (c : Cx) (t : Tr), (c.fill t).ix = c.root t.ix
  | top, t => rfl
  | inl i c r, t => fill_ix c (node i t r)
  | inr i l c, t => fill_ix c (node i l t)
/-- Hole and what is in it make the whole. -/
theorem rep_fill {m : M} : ∀ {c : Cx} {t : Tr}, RepC m c t.ix → Rep m c.up t → Rep m (-1) (c.fill t)
  | top, t, _, h => h
  | inl i c r, t, hc, h => rep_fill (c := c) (t := node i t r) hc.2.2.2.2.2 ⟨hc.1, hc.2.1, hc.2.2.1, hc.2.2.2.1, h, hc.2.2.2.2.1⟩
  | inr i l c, t, hc, h => rep_fill (c := c) (t := node i l t) hc.2.2.2.2.2 ⟨hc.1, hc.2.1, hc.2.2.1, hc.2.2.2.1, hc.2.2.2.2.1, h⟩
end TrP
end Go.NP
namespace Go.NP
set_option linter.unusedVariables false
set_option linter.unusedSimpArgs false
namespace TrP
open Tr Cx
/-- The same but for what is reckoned and how it hangs. -/
def Same (m m' : M) : Prop := ∀ i, (m' i).b = (m i).b ∧ (m' i).n = (m i).n ∧ ((m i).n ≠ 0 → (m' i).fat = (m i).fat)
theorem Same.refl (m : M) : Same m m := fun _ => ⟨rfl, rfl, fun _ => rfl⟩
theorem Same.trans {a b c : M} (h : Same a b) (k : Same b c) : Same a c := fun i => ⟨(k i).1.trans (h i).1, (k i).2.1.trans (h i).2.1, fun hn => ((k i).2.2 (by rw [(h i).2.1]; exact hn)).trans ((h i).2.2 hn)⟩
theorem same_st {m : M} {i : Int} {x : Nd} (hb : x.b = (m i).b) (hn : x.n = (m i).n) (hf : (m i).n ≠ 0 → x.fat = (m i).fat) : Same m (st m i x) := fun k => by
  by_cases e : k = i
  · subst e; rw [st_at]; exact ⟨hb, hn, hf⟩
  · rw [st_ne e]; exact ⟨rfl, rfl, fun _ => rfl⟩
def again (m : M) (i : Int) : M := st m i { m i with fat := join (m (m i).l).fat (m (m i).r).fat, h := 1 + max (m (m i).l).h (m (m i).r).h }
theorem again_ne {m : M} {i k : Int} (h : k ≠ i) : again m i k = m k := st_ne h
theorem again_at (m : M) (i : Int) : again m i i = { m i with fat := join (m (m i).l).fat (m (m i).r).fat, h := 1 + max (m (m i).l).h (m (m i).r).h } := st_at _ _ _
theorem again_same {m : M} {i : Int} (h : (m i).n = 0) : Same m (again m i) := same_st rfl rfl fun hn => absurd h hn
theorem again_rep {m : M} {j : Int} : ∀ {t : Tr} {u : Int}, Rep m u t → Rep (again m j) u t
  | leaf i, u, h => by
    unfold Rep at *
    by_cases e : i = j
    · subst e; rw [again_at]; exact h
    · rw [again_ne e]; exact h
  | node i l r, u, h => by
    unfold Rep at *
    have h5 := again_rep (j := j) h.2.2.2.2.1
    have h6 := again_rep (j := j) h.2.2.2.2.2
    by_cases e : i = j
    · subst e; rw [again_at]; exact ⟨h.1, h.2.1, h.2.2.1, h.2.2.2.1, h5, h6⟩
    · rw [again_ne e]; exact ⟨h.1, h.2.1, h.2.2.1, h.2.2.2.1, h5, h6⟩
theorem again_repC {m : M} {j : Int} : ∀ {c : Cx} {k : Int}, RepC m c k → RepC (again m j) c k
  | top, _, _ => trivial
  | inl i c r, k, h => by
    unfold RepC at *
    have h5 := again_rep (j := j) h.2.2.2.2.1
    have h6 := again_repC (j := j) h.2.2.2.2.2
    by_cases e : i = j
    · subst e; rw [again_at]; exact ⟨h.1, h.2.1, h.2.2.1, h.2.2.2.1, h5, h6⟩
    · rw [again_ne e]; exact ⟨h.1, h.2.1, h.2.2.1, h.2.2.2.1, h5, h6⟩
  | inr i l c, k, h => by
    unfold RepC at *
    have h5 := again_rep (j := j) h.2.2.2.2.1
    have h6 := again_repC (j := j) h.2.2.2.2.2
    by_cases e : i = j
    · subst e; rw [again_at]; exact ⟨h.1, h.2.1, h.2.2.1, h.2.2.2.1, h5, h6⟩
    · rw [again_ne e]; exact ⟨h.1, h.2.1, h.2.2.1, h.2.2.2.1, h5, h6⟩
theorem Fit.keep {m m' : M} {t : Tr} (h : Fit m t) (he : ∀ i ∈ t.all, m' i = m i) : Fit m' t := Fit.frame (fun i hi => by rw [he i hi]; exact ⟨rfl, rfl, rfl⟩) h
theorem FitC.keep {m m' : M} {c : Cx} (h : FitC m c) (he : ∀ i ∈ c.all, m' i = m i) : FitC m' c := FitC.frame (fun i hi => by rw [he i hi]; exact ⟨rfl, rfl, rfl⟩) h
/-- A node whose two are reckoned is reckoned anew. -/
theorem again_fit {m : M} {i : Int} {l r : Tr} {u : Int} (h : Rep m u (node i l r)) (hl : Fit m l) (hr : Fit m r) (hnd : (node i l r).all.Nodup) : Fit (again m i) (node i l r) := by
  have hn := List.nodup_cons.1 hnd
  have nl : ∀ j ∈ l.all, j ≠ i := fun j hj e => hn.1 (by rw [← e]; exact List.mem_append_left _ hj)
  have nr : ∀ j ∈ r.all, j ≠ i := fun j hj e => hn.1 (by rw [← e]; exact List.mem_append_right _ hj)
  unfold Fit
  rw [again_at, again_ne (nl _ l.ix_all), again_ne (nr _ r.ix_all), h.2.2.1, h.2.2.2.1]
  exact ⟨rfl, rfl, hl.keep fun j hj => again_ne (nl j hj), hr.keep fun j hj => again_ne (nr j hj)⟩
def _root_.Go.NP.Nd.setL (x : Nd) (k : Int) : Nd := { x with l := k }
def _root_.Go.NP.Nd.setR (x : Nd) (k : Int) : Nd := { x with r := k }
def _root_.Go.NP.Nd.setU (x : Nd) (k : Int) : Nd := { x with u := k }
/-- Another node hung in the place of one. -/
def change (m : M) (top up was now : Int) : M × Int :=
  let p : M × Int := if up = -1 then (m, now) else if (m up).l = was then (st m up ((m up).setL now), top) else (st m up ((m up).setR now), top)
  if now = -1 then p else (st p.1 now ((p.1 now).setU up), p.2)
/-- What the change does to the nodes around a hole. -/
structure Changed (m m' : M) (c : Cx) (now : Int) : Prop where
  rep : RepC m' c now
  at_ : m' now = (m now).setU c.up
  oth : ∀ i, i ≠ now → i ≠ c.up → m' i = m i
  upn : ∀ i, i ≠ now → (m' i).fat = (m i).fat ∧ (m' i).b = (m i).b ∧ (m' i).h = (m i).h ∧ (m' i).n = (m i).n ∧ (m' i).u = (m i).u
theorem change_top {m : M} {t0 was now : Int} (hn : now ≠ -1) : change m t0 (-1) was now = (st m now ((m now).setU (-1)), now) := by
  unfold change; simp [hn]
theorem change_l {m : M} {t0 i was now : Int} (hi : i ≠ -1) (hl : (m i).l = was) (hn : now ≠ -1) : change m t0 i was now = (st (st m i ((m i).setL now)) now ((st m i ((m i).setL now) now).setU i), t0) := by
  unfold change; simp [hn, hi, hl]
theorem change_r {m : M} {t0 i was now : Int} (hi : i ≠ -1) (hl : ¬ (m i).l = was) (hn : now ≠ -1) : change m t0 i was now = (st (st m i ((m i).setR now)) now ((st m i ((m i).setR now) now).setU i), t0) := by
  unfold change; simp [hn, hi, hl]
theorem change_hole {m : M} {c : Cx} {was now : Int} (h : RepC m c was) (hw : was ∉ c.all) (hk : now ∉ c.all) (hnd : c.all.Nodup) (hpos : ∀ i ∈ c.all, 0 ≤ i) (hn : 0 ≤ now) :
    ∃ m', change m (c.root was) c.up was now = (m', c.root now) ∧ Changed m m' c now := by
  have hn1 : now ≠ -1 := by omega
  cases c with
  | top => exact ⟨_, change_top hn1, trivial, st_at _ _ _, fun i h1 _ => st_ne h1, fun i h1 => by rw [st_ne h1]; exact ⟨rfl, rfl, rfl, rfl, rfl⟩⟩
  | inl i c r =>
    have hi : 0 ≤ i := hpos i (List.mem_cons_self ..)
    have hin : now ≠ i := fun e => hk (by rw [e]; exact List.mem_cons_self ..)
    have hnd' := List.nodup_cons.1 hnd
    obtain ⟨m', hm'⟩ : ∃ m', st (st m i ((m i).setL now)) now ((st m i ((m i).setL now) now).setU i) = m' := ⟨_, rfl⟩
    refine ⟨m', by rw [← hm']; exact change_l (show i ≠ -1 by omega) h.2.2.1 hn1, ?_⟩
    have ei : m' i = (m i).setL now := by rw [← hm', st_ne (fun e => hin e.symm), st_at]
    have en : m' now = (m now).setU i := by rw [← hm', st_at, st_ne hin]
    have eo : ∀ j, j ≠ now → j ≠ i → m' j = m j := fun j h1 h2 => by rw [← hm', st_ne h1, st_ne h2]
    have fr : ∀ j ∈ r.all ++ c.all, m' j = m j := fun j hj => eo j (fun e => hk (by rw [← e]; exact List.mem_cons_of_mem _ hj)) (fun e => hnd'.1 (by rw [← e]; exact hj))
    refine ⟨?_, en, eo, fun j h1 => ?_⟩
    · unfold RepC at h ⊢
      rw [ei]
      exact ⟨h.1, h.2.1, rfl, h.2.2.2.1, Rep.frame (fun j hj => fr j (List.mem_append_left _ hj)) h.2.2.2.2.1, RepC.frame (fun j hj => fr j (List.mem_append_right _ hj)) h.2.2.2.2.2⟩
    · by_cases e2 : j = i
      · subst e2; rw [ei]; exact ⟨rfl, rfl, rfl, rfl, rfl⟩
      · rw [eo j h1 e2]; exact ⟨rfl, rfl, rfl, rfl, rfl⟩
  | inr i l c =>
    have hi : 0 ≤ i := hpos i (List.mem_cons_self ..)
    have hin : now ≠ i := fun e => hk (by rw [e]; exact List.mem_cons_self ..)
    have hnd' := List.nodup_cons.1 hnd
    have hlw : ¬ (m i).l = was := fun e => hw (by
      rw [← e, h.2.2.1]
      exact List.mem_cons_of_mem _ (List.mem_append_left _ l.ix_all))
    obtain ⟨m', hm'⟩ : ∃ m', st (st m i ((m i).setR now)) now ((st m i ((m i).setR now) now).setU i) = m' := ⟨_, rfl⟩
    refine ⟨m', by rw [← hm']; exact change_r (show i ≠ -1 by omega) hlw hn1, ?_⟩
    have ei : m' i = (m i).setR now := by rw [← hm', st_ne (fun e => hin e.symm), st_at]
    have en : m' now = (m now).setU i := by rw [← hm', st_at, st_ne hin]
    have eo : ∀ j, j ≠ now → j ≠ i → m' j = m j := fun j h1 h2 => by rw [← hm', st_ne h1, st_ne h2]
    have fr : ∀ j ∈ l.all ++ c.all, m' j = m j := fun j hj => eo j (fun e => hk (by rw [← e]; exact List.mem_cons_of_mem _ hj)) (fun e => hnd'.1 (by rw [← e]; exact hj))
    refine ⟨?_, en, eo, fun j h1 => ?_⟩
    · unfold RepC at h ⊢
      rw [ei]
      exact ⟨h.1, h.2.1, h.2.2.1, rfl, Rep.frame (fun j hj => fr j (List.mem_append_left _ hj)) h.2.2.2.2.1, RepC.frame (fun j hj => fr j (List.mem_append_right _ hj)) h.2.2.2.2.2⟩
    · by_cases e2 : j = i
      · subst e2; rw [ei]; exact ⟨rfl, rfl, rfl, rfl, rfl⟩
      · rw [eo j h1 e2]; exact ⟨rfl, rfl, rfl, rfl, rfl⟩
end TrP
end Go.NP
