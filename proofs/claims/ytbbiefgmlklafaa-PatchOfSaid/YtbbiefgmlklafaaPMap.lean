/- A map by names of two integers: looked up, and a name more: its runs. No condition. -/
import Derived.Test.YtbbiefgmlklafaaPSp
import Derived.Test.YtbbiefgmlklafaaRegI
import Derived.MapKept
import Derived.ChangeMaps
namespace Go.Proofs.Ytbbiefgmlklafaa
set_option linter.unusedVariables false
set_option linter.unusedSimpArgs false
open Go.RowKit Go.NP
open Go.ChangeMaps (setBlock)
namespace PMap
/-- A name as the program has it. -/
def nm (p : Int × Int) : Value := .agg #[.int .i64 p.1, .int .i64 p.2]
theorem eqN (p q : Int × Int) (w : World) : (Op.equalIn 10000 58 (nm p) (nm q)).run Try.prog w = .ok (p.1 == q.1 && p.2 == q.2) w := by
  have u3 := Try.underlying3
  have a3 := Try.isAgg3
  have z3 := Try.sizeOf3
  unfold nm
  rw [show (10000 : Nat) = 9999 + 1 from rfl, Op.equalIn]
  simp only [Sem.run_bind, run_underlying Try.underlying58, Result.andThen_ok]
  go_simp
  by_cases h0 : p.1 = q.1 <;> by_cases h1 : p.2 = q.2 <;> simp [h0, h1]
theorem chkN (em : Bool) (p : Int × Int) (w : World) : (Instr.checkKey em 10000 58 (nm p)).run Try.prog w = .ok () w := by
  kernel_rfl
theorem eqE (p q : Int × Int) (w : World) : (Op.equal 58 (nm p) (nm q)).run Try.prog w = .ok (p.1 == q.1 && p.2 == q.2) w := eqN p q w
theorem pair_eq (p q : Int × Int) : (p.1 == q.1 && p.2 == q.2) = decide (p = q) := by
  by_cases h : p = q
  · simp [h]
  · rw [decide_eq_false h]
    by_cases h0 : p.1 = q.1
    · have h1 : p.2 ≠ q.2 := fun h1 => h (Prod.ext h0 h1)
      simp [h0, h1]
    · simp [h0]
theorem nm_inj {p q : Int × Int} (h : nm p = nm q) : p = q := by
  unfold nm at h
  simp only [Value.agg.injEq, Array.mk.injEq, List.cons.injEq, Value.int.injEq, true_and, and_true] at h
  exact Prod.ext h.1 h.2
theorem ask_eq (p q : Int × Int) (w : World) (e : MapEntry) (E : List MapEntry) (i : Nat) (hq : e.key = nm q) (h : p = q) : (Instr.findAsking 58 (nm p) (e :: E) i).run Try.prog w = .ok (some (i, e.val)) w := by
  rw [Instr.findAsking, Sem.run_bind, hq, eqE, pair_eq, decide_eq_true h]
  rfl
theorem ask_ne (p q : Int × Int) (w : World) (e : MapEntry) (E : List MapEntry) (i : Nat) (hq : e.key = nm q) (h : ¬ p = q) : (Instr.findAsking 58 (nm p) (e :: E) i).run Try.prog w = (Instr.findAsking 58 (nm p) E (i + 1)).run Try.prog w := by
  rw [Instr.findAsking, Sem.run_bind, hq, eqE, pair_eq, decide_eq_false h]
  rfl
theorem ask_no (p : Int × Int) (w : World) : ∀ (E : List MapEntry) (i : Nat), (∀ e ∈ E, ∃ q, e.key = nm q ∧ ¬ p = q) → (Instr.findAsking 58 (nm p) E i).run Try.prog w = .ok none w
  | [], _, _ => rfl
  | e :: E, i, h => by
    obtain ⟨q, hq, hne⟩ := h e (List.mem_cons_self ..)
    rw [ask_ne p q w e E i hq hne]
    exact ask_no p w E (i + 1) fun e' he => h e' (List.mem_cons_of_mem _ he)
theorem ask_yes (p : Int × Int) (w : World) (v : Value) : ∀ (E : List MapEntry) (i : Nat), (∀ e ∈ E, ∃ q, e.key = nm q ∧ (p = q → e.val = v)) → (∃ e ∈ E, e.key = nm p) → ∃ j, (Instr.findAsking 58 (nm p) E i).run Try.prog w = .ok (some (j, v)) w
  | [], _, _, h => by obtain ⟨_, h, _⟩ := h; cases h
  | e :: E, i, h, hx => by
    obtain ⟨q, hq, hv⟩ := h e (List.mem_cons_self ..)
    by_cases hpq : p = q
    · exact ⟨i, by rw [ask_eq p q w e E i hq hpq, hv hpq]⟩
    · obtain ⟨j, hj⟩ := ask_yes p w v E (i + 1) (fun e' he => h e' (List.mem_cons_of_mem _ he)) (by
        obtain ⟨e', he, hk⟩ := hx
        rcases List.mem_cons.1 he with rfl | he
        · exact absurd (nm_inj (hk.symm.trans hq)) hpq
        · exact ⟨e', he, hk⟩)
      exact ⟨j, by rw [ask_ne p q w e E i hq hpq]; exact hj⟩
/-- The map's entries: each name once, in the order in which they came. -/
def ents (l : List (Int × Int)) : List MapEntry := l.zipIdx.map fun x => ⟨nm x.1, .int .i64 1, x.2⟩
theorem ents_snoc (l : List (Int × Int)) (p : Int × Int) : ents (l ++ [p]) = ents l ++ [⟨nm p, .int .i64 1, l.length⟩] := by
  simp [ents, List.zipIdx_append]
theorem ents_len (l : List (Int × Int)) : (ents l).length = l.length := by simp [ents]
theorem ents_mem {l : List (Int × Int)} {e : MapEntry} (h : e ∈ ents l) : ∃ q ∈ l, e.key = nm q ∧ e.val = .int .i64 1 ∧ e.born < l.length := by
  unfold ents at h
  obtain ⟨x, hx, rfl⟩ := List.mem_map.1 h
  have := List.mem_zipIdx hx
  refine ⟨x.1, ?_, rfl, rfl, by simpa using this.2.1⟩
  rw [this.2.2]; exact List.getElem_mem _
theorem mem_ents {l : List (Int × Int)} {q : Int × Int} (h : q ∈ l) : ∃ e ∈ ents l, e.key = nm q := by
  obtain ⟨i, hi, rfl⟩ := List.getElem_of_mem h
  refine ⟨⟨nm l[i], .int .i64 1, i⟩, ?_, rfl⟩
  unfold ents
  exact List.mem_map.2 ⟨(l[i], i), by rw [List.mem_zipIdx_iff_getElem?]; simp [hi], rfl⟩
theorem find_run (p : Int × Int) (w : World) (E : List MapEntry) (r : Option (Nat × Value)) (h : (Instr.findAsking 58 (nm p) E).run Try.prog w = .ok r w) : (Instr.findKey 58 (nm p) E).run Try.prog w = .ok r w := by
  unfold Instr.findKey
  simp only [Sem.run_bind, run_underlying Try.underlying58, Result.andThen_ok]
  cases E with
  | nil => exact h
  | cons e E => simpa [Instr.findNow, Instr.sameNow] using h
theorem look_at {w : World} {b c : Nat} {E : List MapEntry} (hb : w.heap[b]? = some (.map E.toArray c)) {p : Int × Int} {r : Option (Nat × Value)} (h : (Instr.findAsking 58 (nm p) E).run Try.prog w = .ok r w) :
    (Instr.lookup 56 (.map (some b)) (nm p) false).run Try.prog w = .ok (match r with | some x => x.2 | none => .int .i64 0) w := by
  have hz : (zeroValue 3).run Try.prog w = .ok (.int .i64 0) w := by kernel_rfl
  have hf := find_run p w E r h
  unfold Instr.lookup
  cases r with
  | none => simp [run_underlying Try.underlying56, MapKept.run_getObj_map hb, chkN, hf, hz, Result.andThen]
  | some x => simp [run_underlying Try.underlying56, MapKept.run_getObj_map hb, chkN, hf, hz, Result.andThen]
theorem look_in {w : World} {b c : Nat} {l : List (Int × Int)} (hb : w.heap[b]? = some (.map (ents l).toArray c)) {p : Int × Int} (hp : p ∈ l) :
    (Instr.lookup 56 (.map (some b)) (nm p) false).run Try.prog w = .ok (.int .i64 1) w := by
  obtain ⟨j, hj⟩ := ask_yes p w (.int .i64 1) (ents l) 0 (fun e he => by obtain ⟨q, _, h1, h2, _⟩ := ents_mem he; exact ⟨q, h1, fun _ => h2⟩) (mem_ents hp)
  exact look_at hb hj
theorem ask_out {w : World} {l : List (Int × Int)} {p : Int × Int} (hp : p ∉ l) : (Instr.findAsking 58 (nm p) (ents l)).run Try.prog w = .ok none w :=
  ask_no p w (ents l) 0 fun e he => by obtain ⟨q, h0, h1, _⟩ := ents_mem he; exact ⟨q, h1, fun e => hp (e ▸ h0)⟩
theorem look_out {w : World} {b c : Nat} {l : List (Int × Int)} (hb : w.heap[b]? = some (.map (ents l).toArray c)) {p : Int × Int} (hp : p ∉ l) :
    (Instr.lookup 56 (.map (some b)) (nm p) false).run Try.prog w = .ok (.int .i64 0) w := look_at hb (ask_out hp)
theorem look_new {w : World} {b c n : Nat} {l : List (Int × Int)} {p : Int × Int} (hb : w.heap[b]? = some (.map (ents l ++ [(⟨nm p, .int .i64 0, n⟩ : MapEntry)]).toArray c)) (hp : p ∉ l) :
    (Instr.lookup 56 (.map (some b)) (nm p) false).run Try.prog w = .ok (.int .i64 0) w := by
  obtain ⟨j, hj⟩ := ask_yes p w (.int .i64 0) (ents l ++ [⟨nm p, .int .i64 0, n⟩]) 0 (fun e he => by
    rcases List.mem_append.1 he with he | he
    · obtain ⟨q, h0, h1, h2, _⟩ := ents_mem he; exact ⟨q, h1, fun e => absurd (e ▸ h0) hp⟩
    · obtain rfl := List.mem_singleton.1 he; exact ⟨p, rfl, fun _ => rfl⟩) ⟨_, List.mem_append_right _ (List.mem_singleton.2 rfl), rfl⟩
  exact look_at hb hj
theorem entry_new {w : World} {b c : Nat} {l : List (Int × Int)} (hb : w.heap[b]? = some (.map (ents l).toArray c)) {p : Int × Int} (hp : p ∉ l) :
    (Instr.mapEntry 56 (.map (some b)) (nm p)).run Try.prog w = .ok (.tuple #[.int .i64 0, .int .i64 (c : Int)]) (setBlock w b (.map (ents l ++ [(⟨nm p, .int .i64 0, c⟩ : MapEntry)]).toArray (c + 1))) := by
  have hz : ∀ w, (zeroValue 3).run Try.prog w = .ok (.int .i64 0) w := fun w => by kernel_rfl
  have hf := find_run p w (ents l) none (ask_out hp)
  unfold Instr.mapEntry
  simp [run_underlying Try.underlying56, MapKept.run_getObj_map hb, chkN, hf, hz, MapKept.run_setObj_map _ hb, Result.andThen, setBlock, goInt]
theorem store_new {w : World} {b c : Nat} {l : List (Int × Int)} {p : Int × Int} (hb : w.heap[b]? = some (.map (ents l ++ [(⟨nm p, .int .i64 0, l.length⟩ : MapEntry)]).toArray c)) :
    (Instr.entryStore 56 (.map (some b)) (.int .i64 (l.length : Int)) (.int .i64 1)).run Try.prog w = .ok () (setBlock w b (.map (ents (l ++ [p])).toArray c)) := by
  have hidx : (ents l ++ [(⟨nm p, .int .i64 0, l.length⟩ : MapEntry)]).toArray.findIdx? (fun e => ((e.born : Nat) : Int) == ((l.length : Nat) : Int)) = some (ents l).length := by
    simp only [List.findIdx?_toArray, List.findIdx?_append]
    have h0 : (ents l).findIdx? (fun e => ((e.born : Nat) : Int) == ((l.length : Nat) : Int)) = none := by
      rw [List.findIdx?_eq_none_iff]
      intro e he
      obtain ⟨_, _, _, _, h⟩ := ents_mem he
      simp; omega
    rw [h0]
    simp
  have hmod : (ents l ++ [(⟨nm p, .int .i64 0, l.length⟩ : MapEntry)]).toArray.modify (ents l).length (fun e => { e with val := .int .i64 1 }) = (ents (l ++ [p])).toArray := by
    apply Array.ext'
    rw [Array.toList_modify, ents_snoc]
    have : ∀ (L : List MapEntry) (a : MapEntry), (L ++ [a]).modify L.length (fun e => { e with val := .int .i64 1 }) = L ++ [{ a with val := .int .i64 1 }] := fun L => by
      induction L with
      | nil => intro a; rfl
      | cons x r ih => intro a; simp [List.modify_succ_cons, ih]
    exact this _ _
  unfold Instr.entryStore
  simp only [Sem.run_bind, MapKept.run_getObj_map hb, Result.andThen_ok, asInt, asIntOf, Sem.run_pure, hidx, hmod, MapKept.run_setObj_map _ hb, setBlock]
section
variable {P : Program} {o : Oper} {a : Act} {u u' : World} {ty : TypeId} {m x s y : Operand} {mv xv sv yv v : Value}
theorem run_look (ho : o.op = .lookup ty m x false) (hm : a.eval m = mv) (hx : a.eval x = xv) (h : (Instr.lookup ty mv xv false).run P u = .ok v u) : (execOp a.eval o).run P u = .ok (.value v) u := by
  unfold execOp
  simp only [ho, hm, hx, Sem.run_bind, Sem.run_pure, h, Result.andThen_ok]
theorem run_entry (ho : o.op = .mapEntry ty m x) (hm : a.eval m = mv) (hx : a.eval x = xv) (h : (Instr.mapEntry ty mv xv).run P u = .ok v u') : (execOp a.eval o).run P u = .ok (.value v) u' := by
  unfold execOp
  simp only [ho, hm, hx, Sem.run_bind, Sem.run_pure, h, Result.andThen_ok]
theorem run_estore (ho : o.op = .entryStore ty m s y) (hm : a.eval m = mv) (hs : a.eval s = sv) (hy : a.eval y = yv) (h : (Instr.entryStore ty mv sv yv).run P u = .ok () u') : (execOp a.eval o).run P u = .ok .skip u' := by
  unfold execOp
  simp only [ho, hm, hs, hy, Sem.run_bind, Sem.run_pure, h, Result.andThen_ok]
end
theorem below_setBlock {B b : Nat} {w0 w : World} (h : Below B w0 w) (hB : B ≤ b) (o : Obj) : Below B w0 (setBlock w b o) :=
  h.trans ⟨rfl, rfl, rfl, by simp [setBlock], fun k hk => by simp [setBlock, Array.getElem?_setIfInBounds, show b ≠ k by omega]⟩
theorem box_setBlock {b g : Nat} {w : World} {l : List Value} {T : TypeId} (h : Box w g l T) (hg : g ≠ b) (o : Obj) : Box (setBlock w b o) g l T := by
  unfold Box at *
  simp only [setBlock]
  rw [Array.getElem?_setIfInBounds, if_neg (fun e => hg e.symm)]; exact h
theorem heap_setBlock {b : Nat} {w : World} (h : b < w.heap.size) (o : Obj) : (setBlock w b o).heap[b]? = some o := by
  simp [setBlock, h]
theorem SeqO.turn {P : Program} {Q : Exit → Act → World → Prop} {ls es : List Nat} {T : List (Nat × Option Tmp) → Act → Prop} {ops : Array Oper} {o : Oper} {r : List Oper} {acc : List (Nat × Option Tmp)} {a : Act} {v : Value} {i0 : Nat} {R1 R2 : World → Prop} (hi : (!ls.contains i0 && !es.contains i0) = true) (hw : Region.wanted o (yielded ops a.tmps) = true)
    (h1 : ∀ w, R1 w → ∃ w', (execOp a.eval o).run P w = .ok (.value v) w' ∧ R2 w') (h2 : SeqO P ops Q (SOne i0 R1 R2) ls es T (i0 + 1) r acc (a.put o.dst v)) : SeqO P ops Q (SOne i0 R1 R2) ls es T i0 (o :: r) acc a :=
  SeqO.one (v := v) hi hw (fun w hR K hK => by
    obtain ⟨w', hr, h2⟩ := h1 w hR
    simp only [Oper.wp, hr, Oper.upon]; exact hK _ h2) h2
/-- Ahead of a name's entry, and behind it. -/
structure Ahead (w0 : World) (bm gy : Nat) (L : List (Int × Int)) (p : Int × Int) (u : World) : Prop where
  W : Below w0.heap.size w0 u
  Y : Box u gy [.int .i64 p.1, .int .i64 p.2] 58
  M : u.heap[bm]? = some (.map (ents L).toArray L.length)
structure Behind (w0 : World) (bm gy : Nat) (L : List (Int × Int)) (p : Int × Int) (u : World) : Prop where
  W : Below w0.heap.size w0 u
  Y : Box u gy [.int .i64 p.1, .int .i64 p.2] 58
  M : u.heap[bm]? = some (.map (ents L ++ [(⟨nm p, .int .i64 0, L.length⟩ : MapEntry)]).toArray (L.length + 1))
theorem Ahead.entry {w0 u : World} {bm gy : Nat} {L : List (Int × Int)} {p : Int × Int} (h : Ahead w0 bm gy L p u) (hg : gy ≠ bm) (hb : w0.heap.size ≤ bm) : Behind w0 bm gy L p (setBlock u bm (.map (ents L ++ [(⟨nm p, .int .i64 0, L.length⟩ : MapEntry)]).toArray (L.length + 1))) :=
  ⟨below_setBlock h.W hb _, box_setBlock h.Y hg _, heap_setBlock (Array.getElem?_eq_some_iff.1 h.M).1 _⟩
end PMap
end Go.Proofs.Ytbbiefgmlklafaa
