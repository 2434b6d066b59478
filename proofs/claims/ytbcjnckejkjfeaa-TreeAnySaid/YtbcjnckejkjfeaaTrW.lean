/- A tree as it lies in memory: read, written field by field. No condition. -/
import Derived.Test.YtbcjnckejkjfeaaChecked
import Derived.Test.YtbcjnckejkjfeaaRegH
import Derived.Test.YtbcjnckejkjfeaaTrM
import Derived.Test.YtbcjnckejkjfeaaBnd3
import Derived.Lib.Hide
namespace Go.Proofs.Ytbcjnckejkjfeaa
set_option linter.unusedVariables false
set_option linter.unusedSimpArgs false
open Go.RowKit Go.NP
namespace TrW
open TrP
def bdv (b : Bd) : List Value := [.int .i64 b.lo.x, .int .i64 b.lo.y, .int .i64 b.lo.z, .int .i64 b.hi.x, .int .i64 b.hi.y, .int .i64 b.hi.z]
def ndv (x : Nd) : List Value := bdv x.fat ++ bdv x.b ++ [.int .i64 x.n, .int .i64 x.u, .int .i64 x.l, .int .i64 x.r, .int .i64 x.h]
theorem ndv_len (x : Nd) : (ndv x).length = 17 := rfl
/-- A tree: where it lies, and what it holds. -/
structure Tn where
  p : Nat
  g : Nat
  N : Nat
  cap : Nat
  m : M
  top : Int
  mg : Int
  fr : Value
  mp : Value
def tv (T : Tn) : List Value := [.bool true, .int .i64 T.mg, .slice (some ⟨T.g, 0, none⟩) T.N T.cap, T.fr, .int .i64 T.top, T.mp]
def CellsN (L : List Value) (m : M) (N : Nat) : Prop := ∀ (i : Nat), i < N → ∀ (j : Nat) v, (ndv (m i))[j]? = some v → L[i * 17 + j]? = some v
structure TN (w : World) (T : Tn) : Prop where
  box : Box w T.p (tv T) 58
  row : ∃ L, Box w T.g L 71 ∧ L.length = T.cap * 17 ∧ CellsN L T.m T.N
  cap : T.N ≤ T.cap
  ne : T.p ≠ T.g
  small : T.N ≤ 100000
theorem CellsN.set {L : List Value} {m : M} {N : Nat} (h : CellsN L m N) {k j : Nat} {v : Value} {x : Nd} (hk : k < N) (hj : j < 17) (hL : N * 17 ≤ L.length) (hx : ndv x = (ndv (m k)).set j v) : CellsN (L.set (k * 17 + j) v) (st m k x) N := fun i hi j' v' hv => by
  have hj' : j' < 17 := by
    rcases Nat.lt_or_ge j' 17 with h | h
    · exact h
    · rw [List.getElem?_eq_none (by rw [ndv_len]; exact h)] at hv; cases hv
  by_cases e : i = k
  · subst e
    rw [st_at, hx] at hv
    by_cases e2 : j' = j
    · subst e2
      rw [List.getElem?_set_self (by rw [ndv_len]; exact hj)] at hv
      rw [List.getElem?_set_self (by omega)]; exact hv
    · rw [List.getElem?_set_ne (fun e => e2 e.symm)] at hv
      rw [List.getElem?_set_ne (by omega)]; exact h i hi j' v' hv
  · rw [st_ne (by omega)] at hv
    rw [List.getElem?_set_ne (by omega)]; exact h i hi j' v' hv
theorem TN.cell {w : World} {T : Tn} (h : TN w T) {i : Nat} (hi : i < T.N) {j : Nat} {v : Value} (hv : (ndv (T.m i))[j]? = some v) : w.cell? ⟨T.g, i * 17 + j, none⟩ = some v := by
  obtain ⟨L, hb, _, hc⟩ := h.row
  rw [hb.cell]; exact hc i hi j v hv
theorem TN.free {w : World} {T : Tn} (h : TN w T) (j : Nat) : w.frozen? ⟨T.g, j, none⟩ = false := by
  obtain ⟨L, hb, _⟩ := h.row
  exact hb.free j
/-- A node's field is written. -/
theorem TN.put {w : World} {T : Tn} (h : TN w T) {k j : Nat} {v : Value} {x : Nd} (hk : k < T.N) (hj : j < 17) (hx : ndv x = (ndv (T.m k)).set j v) : TN (w.setCell ⟨T.g, k * 17 + j, none⟩ v) { T with m := st T.m k x } := by
  obtain ⟨L, hb, hl, hc⟩ := h.row
  have hcap := h.cap
  exact ⟨h.box.other (fun e => h.ne e.symm) v, ⟨_, hb.set _ v, by rw [List.length_set]; exact hl, hc.set hk hj (by rw [hl]; exact Nat.mul_le_mul_right 17 hcap) hx⟩, h.cap, h.ne, h.small⟩
/-- The top is written. -/
theorem TN.top {w : World} {T : Tn} (h : TN w T) (t : Int) : TN (w.setCell ⟨T.p, 4, none⟩ (.int .i64 t)) { T with top := t } := by
  obtain ⟨L, hb, hl, hc⟩ := h.row
  exact ⟨(h.box.set 4 (.int .i64 t)).cast rfl, ⟨L, hb.other h.ne _, hl, hc⟩, h.cap, h.ne, h.small⟩
/-- All but the tree's two blocks is as it was. -/
structure Mod (w w' : World) (p g : Nat) : Prop where
  os : w'.os = w.os
  tape : w'.tape = w.tape
  output : w'.output = w.output
  size : w.heap.size ≤ w'.heap.size
  block : ∀ k, k < w.heap.size → k ≠ p → k ≠ g → w'.heap[k]? = w.heap[k]?
theorem Mod.refl (w : World) (p g : Nat) : Mod w w p g := ⟨rfl, rfl, rfl, Nat.le_refl _, fun _ _ _ _ => rfl⟩
theorem Mod.trans {w1 w2 w3 : World} {p g : Nat} (h : Mod w1 w2 p g) (k : Mod w2 w3 p g) : Mod w1 w3 p g :=
  ⟨k.os.trans h.os, k.tape.trans h.tape, k.output.trans h.output, Nat.le_trans h.size k.size, fun i hi h1 h2 => (k.block i (Nat.lt_of_lt_of_le hi h.size) h1 h2).trans (h.block i hi h1 h2)⟩
theorem Mod.of_below {w1 w2 : World} {p g : Nat} (h : Below w1.heap.size w1 w2) : Mod w1 w2 p g := ⟨h.os, h.tape, h.output, h.size, fun i hi _ _ => h.block i hi⟩
theorem Mod.cell {w1 w2 : World} {p g : Nat} (h : Mod w1 w2 p g) {a : Addr} (ha : a.block = p ∨ a.block = g) (v : Value) : Mod w1 (w2.setCell a v) p g := by
  refine h.trans ⟨rfl, rfl, rfl, by simp [World.setCell], fun i hi h1 h2 => ?_⟩
  exact Below.heap_setCell _ _ _ _ (fun e => by rcases ha with h | h <;> omega)
theorem Mod.alloc {w1 w2 : World} {p g : Nat} (h : Mod w1 w2 p g) (o : Obj) : Mod w1 (w2.alloc o) p g := h.trans (Mod.of_below ((Below.refl _ _).alloc (Nat.le_refl _) _))
theorem TN.step {w w' : World} {T : Tn} (h : TN w T) (hS : Below w.heap.size w w') : TN w' T := by
  obtain ⟨L, hb, hl, hc⟩ := h.row
  exact ⟨h.box.step hS, ⟨L, hb.step hS, hl, hc⟩, h.cap, h.ne, h.small⟩
/-- The cells of a tree's own block that are read. -/
theorem TN.nodes {w : World} {T : Tn} (h : TN w T) : w.cell? ⟨T.p, 2, none⟩ = some (.slice (some ⟨T.g, 0, none⟩) T.N T.cap) := by rw [h.box.cell]; rfl
theorem TN.fl {w : World} {T : Tn} (h : TN w T) {i : Nat} (hi : i < T.N) : w.cell? ⟨T.g, i * 17 + 14, none⟩ = some (.int .i64 (T.m i).l) := h.cell hi rfl
end TrW
end Go.Proofs.Ytbcjnckejkjfeaa
