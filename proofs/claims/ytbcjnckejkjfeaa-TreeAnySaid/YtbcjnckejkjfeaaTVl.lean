/- Slices of one-cell values, those of one's own too: integers, slices. No condition. -/
import Derived.Test.YtbcjnckejkjfeaaQSl
import Derived.Maps.AppendAt
namespace Go.Proofs.Ytbcjnckejkjfeaa
set_option linter.unusedVariables false
set_option linter.unusedSimpArgs false
open Go.RowKit Go.NP
namespace QVl
/-- A slice of one-cell values. -/
def SlV (w : World) (A : Option Addr) (n : Nat) (l : List Value) : Prop := l.length = n ∧ (0 < n → ∃ b off, A = some ⟨b, off, none⟩ ∧ b < w.heap.size ∧ ∀ k v, l[k]? = some v → w.cell? ⟨b, off + k, none⟩ = some v)
theorem SlV.step {w w' : World} {A : Option Addr} {n : Nat} {l : List Value} (h : SlV w A n l) (hS : Below w.heap.size w w') : SlV w' A n l :=
  ⟨h.1, fun hn => by
    obtain ⟨b, off, e, hb, h2⟩ := h.2 hn
    exact ⟨b, off, e, by have := hS.size; omega, fun k v hk => by rw [World.cell?_of_block (hS.block b hb)]; exact h2 k v hk⟩⟩
/-- .. of one's own. -/
def OwnV (w : World) (base : Nat) (T : TypeId) (v : Value) (l : List Value) : Prop := w.ownsRow base T 1 v l.length l
theorem OwnV.sl {w : World} {base : Nat} {T : TypeId} {v : Value} {l : List Value} (h : OwnV w base T v l) : ∃ A cap, v = .slice A l.length cap ∧ SlV w A l.length l ∧ ((A = none ∧ cap = 0 ∧ l = []) ∨ ∃ g, A = some ⟨g, 0, none⟩) ∧ l.length ≤ cap := by
  rcases h.2 with ⟨rfl, h0⟩ | ⟨g, cap, cur, rfl, hb, hg, hc, hm, hsz, hx⟩
  · exact ⟨none, 0, by rw [h0], ⟨rfl, fun h => absurd h (by omega)⟩, .inl ⟨rfl, rfl, List.eq_nil_of_length_eq_zero h0⟩, by omega⟩
  · refine ⟨some ⟨g, 0, none⟩, cap, rfl, ⟨rfl, fun _ => ⟨g, 0, rfl, (Array.getElem?_eq_some_iff.1 hg).1, fun k u hk => ?_⟩⟩, .inr ⟨g, rfl⟩, hc⟩
    have hk' := get_lt hk
    rw [← hx, List.getElem?_take_of_lt (by omega)] at hk
    simp only [World.cell?, hg, Nat.zero_add]
    simpa using hk
theorem OwnV.nil (w : World) (base : Nat) (T : TypeId) : OwnV w base T (.slice none 0 0) [] := ⟨rfl, .inl ⟨rfl, rfl⟩⟩
theorem OwnV.block {w w' : World} {base : Nat} {T : TypeId} {v : Value} {l : List Value} (h : OwnV w base T v l) (hS : ∀ g, v.ownBlock = some g → g < w.heap.size → w'.heap[g]? = w.heap[g]?) : OwnV w' base T v l := by
  refine ⟨h.1, ?_⟩
  rcases h.2 with h1 | ⟨g, cap, cur, rfl, hb, hg, h2⟩
  · exact .inl h1
  · exact .inr ⟨g, cap, cur, rfl, hb, (hS g rfl (Array.getElem?_eq_some_iff.1 hg).1).trans hg, h2⟩
theorem OwnV.lt {w : World} {base : Nat} {T : TypeId} {v : Value} {l : List Value} (h : OwnV w base T v l) : ∀ g, v.ownBlock = some g → base ≤ g ∧ g < w.heap.size := fun g hg => by
  rcases h.2 with ⟨rfl, _⟩ | ⟨k, cap, cur, rfl, hb, hk, _⟩
  · simp [Value.ownBlock] at hg
  · obtain rfl : k = g := by simpa [Value.ownBlock] using hg
    exact ⟨hb, (Array.getElem?_eq_some_iff.1 hk).1⟩
theorem OwnV.step {w w' : World} {base : Nat} {T : TypeId} {v : Value} {l : List Value} (h : OwnV w base T v l) (hS : Below w.heap.size w w') : OwnV w' base T v l := h.block fun g _ hg => hS.block g hg
theorem OwnV.mono {w : World} {base base' : Nat} {T : TypeId} {v : Value} {l : List Value} (h : OwnV w base T v l) (hb : base' ≤ base) : OwnV w base' T v l := by
  refine ⟨h.1, ?_⟩
  rcases h.2 with h1 | ⟨g, cap, cur, h1, hb', h2⟩
  · exact .inl h1
  · exact .inr ⟨g, cap, cur, h1, by omega, h2⟩
theorem infoI : (Try.prog.info? 3).map (fun i => (i.zero, i.size, i.bytes)) = some (some (.int .i64 0), 1, 8) := by kernel_rfl
theorem own_new (w : World) (T : TypeId) (l : List Value) (h : l.length ≤ 1000) : OwnV (w.alloc (.cells l.toArray T)) w.heap.size T (.slice (some ⟨w.heap.size, 0, none⟩) l.length l.length) l := by
  refine ⟨by simp, .inr ⟨w.heap.size, l.length, l.toArray, rfl, Nat.le_refl _, ?_, Nat.le_refl _, ?_, by simp, ?_⟩⟩
  · exact Box.new rfl
  · simp [maxLen]; omega
  · simp
section
variable {ops : Array Oper} {r : List Oper} {o : Oper} {a : Act} {Q : Exit → Act → World → Prop} {w : World} {base g : Nat} {v t : Value} {l : List Value} {S T : TypeId} {z : Value} {by_ : Nat}
theorem wpV_app (hu : Try.prog.underlying S = some (.slice T)) (hi : (Try.prog.info? T).map (fun i => (i.zero, i.size, i.bytes)) = some (some z, 1, by_)) (hzs : z.cells.size = 1) (hby : by_ ≤ 24) (hgd : o.guard = none) (s x : Operand)
    (ho : o.op = .call { callee := .builtin .append, args := #[s, x], argTypes := #[S, S] }) (hs : a.eval s = v) (hown : OwnV w base T v l) (hx : a.eval x = .slice (some ⟨g, 0, none⟩) 1 1) (hat : w.cell? ⟨g, 0, none⟩ = some t) (h1 : t.oneCell' = true) (hl : l.length ≤ 1000000) (hb : base ≤ w.heap.size)
    (h : ∀ v' w', OwnV w' base T v' (l ++ [t]) → w.grownBy w' v.ownBlock → (v'.ownBlock = v.ownBlock ∨ v'.ownBlock = some w.heap.size) → (∀ w0, Below base w0 w → Below base w0 w') → wpList Try.prog ops Q r (a.put o.dst v') w') : wpList Try.prog ops Q (o :: r) a w := by
  obtain ⟨i0, hi0, hz0, hz1, hz2⟩ := info_parts hi
  refine wpList_append_own_at _ hgd s x S ho base T i0 z 1 by_ hu hi0 hz0 hz1 hz2 hzs (by decide) v l.length l hs hown ⟨g, 0, none⟩ 1 1 [t] hx rfl (fun j u hj => ?_) (fun u hu => by obtain rfl := List.mem_singleton.1 hu; exact h1) (by unfold maxLen; omega) ?_ hb ?_
  · have hj0 : j < 1 := get_lt hj
    obtain rfl : j = 0 := by omega
    cases hj
    exact hat
  · have := Nat.mul_le_mul_left (l.length + 1) hby; omega
  · intro v' w' h1 h2 _ h4
    refine h v' w' ?_ h2 h4 fun w0 hB => hB.grown h2 hb fun k hk => (hown.lt k hk).1
    unfold OwnV
    rw [List.length_append]
    exact h1
theorem wpV_all {A : Option Addr} {n cap : Nat} {m : List Value} (hu : Try.prog.underlying S = some (.slice T)) (hi : (Try.prog.info? T).map (fun i => (i.zero, i.size, i.bytes)) = some (some z, 1, by_)) (hzs : z.cells.size = 1) (hby : by_ ≤ 24) (hgd : o.guard = none) (s x : Operand)
    (ho : o.op = .call { callee := .builtin .append, args := #[s, x], argTypes := #[S, S] }) (hs : a.eval s = v) (hown : OwnV w base T v l) (hx : a.eval x = .slice A n cap) (hm : SlV w A n m) (hnc : A = none → cap = 0) (h1 : ∀ t ∈ m, t.oneCell' = true) (hl : l.length ≤ 1000000) (hn : n ≤ 1000000) (hb : base ≤ w.heap.size)
    (h : ∀ v' w', OwnV w' base T v' (l ++ m) → (∀ w0, Below base w0 w → Below base w0 w') → wpList Try.prog ops Q r (a.put o.dst v') w') : wpList Try.prog ops Q (o :: r) a w := by
  obtain ⟨i0, hi0, hz0, hz1, hz2⟩ := info_parts hi
  have hml := hm.1
  cases A with
  | some ad =>
    refine wpList_append_own_at _ hgd s x S ho base T i0 z 1 by_ hu hi0 hz0 hz1 hz2 hzs (by decide) v l.length l hs hown ad n cap m hx (by omega) (fun j u hj => ?_) h1 (by unfold maxLen; omega) ?_ hb ?_
    · have hj0 := get_lt hj
      obtain ⟨b, off, e, hb, h2⟩ := hm.2 (by omega)
      cases e
      have hadd : (⟨b, off, none⟩ : Addr).add j = ⟨b, off + j, none⟩ := by unfold Addr.add; split <;> simp_all
      rw [hadd]; exact h2 j u hj
    · have := Nat.mul_le_mul_left (l.length + n) hby; omega
    · intro v' w' h1 h2 _ h4
      refine h v' w' ?_ fun w0 hB => hB.grown h2 hb fun k hk => (hown.lt k hk).1
      unfold OwnV
      rw [List.length_append, hml]
      exact h1
  | none =>
    have hc := hnc rfl
    have h0 : m = [] := by
      rcases Nat.eq_zero_or_pos n with h0 | h0
      · exact List.eq_nil_of_length_eq_zero (by omega)
      · obtain ⟨_, _, e, _⟩ := hm.2 h0; cases e
    subst h0
    have hn0 : n = 0 := hml.symm
    subst hc; subst hn0
    refine wpList_append_own_none hgd s x S ho base T i0 1 hu hi0 v l.length l hs hown hx ?_
    exact h v w (by rw [List.append_nil]; exact hown) (fun w0 hB => hB)
end
end QVl
end Go.Proofs.Ytbcjnckejkjfeaa
