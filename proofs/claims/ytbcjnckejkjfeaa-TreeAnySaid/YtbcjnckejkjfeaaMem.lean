/- Blocks of a world known whole, and what keeps them. No condition. -/
import Derived.WalkKit
import Derived.Test.YtbcjnckejkjfeaaReg
namespace Go.NP
open Go Go.RowKit
/-- Block b is a row of cells, none of them frozen. -/
def Box (w : World) (b : Nat) (l : List Value) (T : TypeId) : Prop := w.heap[b]? = some (.cells l.toArray T (0, 0))
theorem Box.lt {w : World} {b : Nat} {l : List Value} {T : TypeId} (h : Box w b l T) : b < w.heap.size := by
  rcases Nat.lt_or_ge b w.heap.size with h' | h'
  · exact h'
  · unfold Box at h; rw [Array.getElem?_eq_none h'] at h; cases h
theorem Box.cell {w : World} {b : Nat} {l : List Value} {T : TypeId} (h : Box w b l T) (j : Nat) : w.cell? ⟨b, j, none⟩ = l[j]? := by
  unfold Box at h; simp [World.cell?, h]
theorem Box.free {w : World} {b : Nat} {l : List Value} {T : TypeId} (h : Box w b l T) (j : Nat) : w.frozen? ⟨b, j, none⟩ = false := by
  unfold Box at h; simp [World.frozen?, h]
theorem Box.set {w : World} {b : Nat} {l : List Value} {T : TypeId} (h : Box w b l T) (j : Nat) (v : Value) : Box (w.setCell ⟨b, j, none⟩ v) b (l.set j v) T := by
  have hlt := h.lt
  unfold Box at *
  simp only [World.setCell, Array.getElem?_modify, if_true, h]
  simp
theorem Box.other {w : World} {b : Nat} {l : List Value} {T : TypeId} (h : Box w b l T) {p : Addr} (hp : p.block ≠ b) (v : Value) : Box (w.setCell p v) b l T := by
  unfold Box at *
  simp only [World.setCell, Array.getElem?_modify, if_neg hp, h]
theorem Box.alloc {w : World} {b : Nat} {l : List Value} {T : TypeId} (h : Box w b l T) (o : Obj) : Box (w.alloc o) b l T := by
  have hlt := h.lt
  unfold Box at *
  rw [Below.heap_alloc _ _ _ hlt]; exact h
theorem Box.new {w : World} {l : List Value} {T : TypeId} {n : Nat} (hn : n = w.heap.size) : Box (w.alloc (.cells l.toArray T)) n l T := by
  subst hn
  show (w.heap.push _)[w.heap.size]? = _
  simp
theorem Box.drew {w : World} {b : Nat} {l : List Value} {T : TypeId} (h : Box w b l T) : Box w.drew b l T := h
theorem Box.below {B : Nat} {w w' : World} {b : Nat} {l : List Value} {T : TypeId} (h : Box w b l T) (hb : Below B w w') (hlt : b < B) : Box w' b l T := by
  unfold Box at *
  rw [hb.block b hlt]; exact h
theorem Box.step {w w' : World} {b : Nat} {l : List Value} {T : TypeId} (h : Box w b l T) (hb : Below w.heap.size w w') : Box w' b l T := h.below hb h.lt
theorem Box.cast {w : World} {b : Nat} {l l' : List Value} {T : TypeId} (h : Box w b l T) (e : l = l') : Box w b l' T := e ▸ h
theorem cast_int {k : IntKind} {a b : Int} (h : a = b) : Value.int k a = Value.int k b := by rw [h]
end Go.NP
