/- A block of ints that the library sorts or compacts. No condition. -/
import Derived.Test.YtbbiefgmlklafaaMemQ
import Derived.Sort.Grow
namespace Go.NP
open Go Go.RowKit Go.Sort
set_option linter.unusedSimpArgs false
set_option linter.unusedVariables false
def ivl (l : List Int) : List Value := l.map (Value.int .i64)
theorem holds_box {w : World} {b : Nat} {l : List Int} {T : TypeId} (h : Box w b (ivl l) T) : Holds (Value.int .i64) w b 0 l.toArray := fun j hj => by
  have hj' : j < l.length := by simpa using hj
  have hc := h.cell j
  refine ⟨?_, by rw [Nat.zero_add]; exact h.free j⟩
  rw [Nat.zero_add, hc, ivl, List.getElem?_map, List.getElem?_eq_getElem hj']
  simp [getElem!_pos, hj']
theorem putCells_row (l d : List Int) (h : d.length = l.length) : putCells (Value.int .i64) 0 d.toArray (ivl l).toArray = (ivl d).toArray := by
  apply Array.ext_getElem?
  intro k
  simp only [putCells, Array.getElem?_mapIdx, ivl, List.getElem?_toArray, List.getElem?_map]
  by_cases hk : k < l.length
  · have hk' : k < d.length := by omega
    rw [List.getElem?_eq_getElem hk, List.getElem?_eq_getElem hk']
    simp [hk', getElem!_pos]
  · rw [List.getElem?_eq_none (by omega), List.getElem?_eq_none (by omega)]; rfl
theorem box_putRow {w : World} {b : Nat} {l : List Int} {T : TypeId} (h : Box w b (ivl l) T) (d : List Int) (hl : d.length = l.length) (n : Nat) (os : Array Obj) : Box (grow (putRow (Value.int .i64) (Sort.ahead w n) b 0 d.toArray) os) b (ivl d) T := by
  have hlt := h.lt
  unfold Box at *
  rw [heap_grow_old _ _ (by simpa using hlt)]
  show (w.heap.modify b (onCells (putCells (Value.int .i64) 0 d.toArray)))[b]? = _
  rw [Array.getElem?_modify, if_pos rfl, h, Option.map_some, onCells, putCells_row l d hl]
theorem heap_putRow_other {w : World} {b k : Nat} (hk : k < w.heap.size) (hne : k ≠ b) (d : List Int) (n : Nat) (os : Array Obj) : (grow (putRow (Value.int .i64) (Sort.ahead w n) b 0 d.toArray) os).heap[k]? = w.heap[k]? := by
  rw [heap_grow_old _ _ (by simpa using hk)]
  show (w.heap.modify b (onCells (putCells (Value.int .i64) 0 d.toArray)))[k]? = _
  rw [Array.getElem?_modify, if_neg (fun e => hne e.symm)]
theorem box_putRow_other {w : World} {b g : Nat} {l : List Value} {T : TypeId} (h : Box w g l T) (hne : g ≠ b) (d : List Int) (n : Nat) (os : Array Obj) : Box (grow (putRow (Value.int .i64) (Sort.ahead w n) b 0 d.toArray) os) g l T :=
  (heap_putRow_other h.lt hne d n os).trans h
theorem below_putRow {B b : Nat} {w0 w : World} (h : Below B w0 w) (hB : B ≤ b) (hb : b < w.heap.size) (d : List Int) (n : Nat) (os : Array Obj) : Below B w0 (grow (putRow (Value.int .i64) (Sort.ahead w n) b 0 d.toArray) os) :=
  h.trans ⟨rfl, rfl, rfl, by simp, fun k hk => heap_putRow_other (by omega) (by omega) d n os⟩
end Go.NP
