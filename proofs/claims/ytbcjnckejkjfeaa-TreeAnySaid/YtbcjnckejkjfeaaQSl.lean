/- Slices of pairs, and those of one's own. No condition. -/
import Derived.Test.YtbcjnckejkjfeaaChecked
import Derived.Test.YtbcjnckejkjfeaaRegH
import Derived.WalkSpells
import Derived.Lib.SliceRun
import Derived.Laws.AppendOwn
import Derived.Laws.AppendOwnNone
import Derived.OwnWalk
namespace Go.Proofs.Ytbcjnckejkjfeaa
set_option linter.unusedVariables false
set_option linter.unusedSimpArgs false
open Go.RowKit Go.NP
/-- A pair. -/
structure Pr where
  a : Int
  b : Int
  deriving DecidableEq
def prv (p : Pr) : List Value := [.int .i64 p.a, .int .i64 p.b]
theorem get_lt {α : Type} {l : List α} {k : Nat} {x : α} (h : l[k]? = some x) : k < l.length := by
  rcases Nat.lt_or_ge k l.length with h' | h'
  · exact h'
  · rw [List.getElem?_eq_none h'] at h; cases h
theorem take_snoc {α : Type} {l : List α} {k : Nat} {x : α} (h : l[k]? = some x) : l.take (k + 1) = l.take k ++ [x] := by
  have hk := get_lt h
  rw [List.take_succ_eq_append_getElem hk]
  rw [List.getElem?_eq_getElem hk] at h; cases h; rfl
/-- A row of pairs. -/
def SAt (w : World) (b off : Nat) (l : List Pr) : Prop := ∀ (k : Nat) s, l[k]? = some s → At' w b (off + k * 2) (prv s)
theorem SAt.step {w w' : World} {b off : Nat} {l : List Pr} (h : SAt w b off l) (hb : b < w.heap.size) (hS : Below w.heap.size w w') : SAt w' b off l := fun k s hk => (h k s hk).step hb hS
/-- A slice of pairs. -/
def SlS (w : World) (A : Option Addr) (n : Nat) (l : List Pr) : Prop := l.length = n ∧ (0 < n → ∃ b off, A = some ⟨b, off, none⟩ ∧ b < w.heap.size ∧ SAt w b off l)
theorem SlS.step {w w' : World} {A : Option Addr} {n : Nat} {l : List Pr} (h : SlS w A n l) (hS : Below w.heap.size w w') : SlS w' A n l :=
  ⟨h.1, fun hn => by obtain ⟨b, off, h1, h2, h3⟩ := h.2 hn; exact ⟨b, off, h1, by have := hS.size; omega, h3.step h2 hS⟩⟩
/-- The cells of pairs. -/
def prvs (l : List Pr) : List Value := l.flatMap prv
theorem prvs_len (l : List Pr) : (prvs l).length = l.length * 2 := by
  induction l with
  | nil => rfl
  | cons x r ih => rw [prvs, List.flatMap_cons, List.length_append, List.length_cons]; rw [prvs] at ih; rw [ih]; simp [prv]; omega
theorem prvs_append (l m : List Pr) : prvs (l ++ m) = prvs l ++ prvs m := by unfold prvs; rw [List.flatMap_append]
theorem prvs_get : ∀ (l : List Pr) (k : Nat) (s : Pr) (j : Nat) (v : Value), l[k]? = some s → (prv s)[j]? = some v → (prvs l)[k * 2 + j]? = some v
  | [], _, _, _, _, h, _ => by cases h
  | x :: r, 0, s, j, v, h, hv => by
    obtain rfl : x = s := by simpa using h
    rw [prvs, List.flatMap_cons, Nat.zero_mul, Nat.zero_add]
    have hj : j < (prv x).length := get_lt hv
    rw [List.getElem?_append_left hj]; exact hv
  | x :: r, k + 1, s, j, v, h, hv => by
    have h' : r[k]? = some s := by simpa using h
    have ih := prvs_get r k s j v h' hv
    rw [prvs, List.flatMap_cons]
    rw [show (k + 1) * 2 + j = (prv x).length + (k * 2 + j) by simp [prv]; omega, List.getElem?_append_right (by omega), Nat.add_sub_cancel_left]
    exact ih
theorem prvs_at {l : List Pr} {j : Nat} {v : Value} (h : (prvs l)[j]? = some v) : ∃ s, l[j / 2]? = some s ∧ (prv s)[j % 2]? = some v := by
  have hj : j < l.length * 2 := by rw [← prvs_len]; exact get_lt h
  have hk : j / 2 < l.length := by omega
  refine ⟨l[j / 2], List.getElem?_eq_getElem hk, ?_⟩
  have h5 : j % 2 < (prv l[j / 2]).length := by simp [prv]; omega
  have := prvs_get l (j / 2) l[j / 2] (j % 2) _ (List.getElem?_eq_getElem hk) (List.getElem?_eq_getElem h5)
  rw [show j / 2 * 2 + j % 2 = j by omega, h] at this
  rw [List.getElem?_eq_getElem h5, ← Option.some.inj this]
theorem prv_one {s : Pr} : ∀ v ∈ prv s, v.oneCell' = true := by simp [prv, Value.oneCell']
theorem prvs_one {l : List Pr} : ∀ v ∈ prvs l, v.oneCell' = true := fun v hv => by
  obtain ⟨s, _, h⟩ := List.mem_flatMap.1 hv
  exact prv_one v h
/-- A slice of one's own that holds these pairs. -/
def OwnS (w : World) (base : Nat) (v : Value) (l : List Pr) : Prop := w.ownsRow base 64 2 v l.length (prvs l)
theorem OwnS.sl {w : World} {base : Nat} {v : Value} {l : List Pr} (h : OwnS w base v l) : ∃ A cap, v = .slice A l.length cap ∧ SlS w A l.length l := by
  rcases h.2 with ⟨rfl, h0⟩ | ⟨g, cap, cur, rfl, hb, hg, hc, hm, hsz, hx⟩
  · exact ⟨none, 0, by rw [h0], rfl, fun h => absurd h (by omega)⟩
  · refine ⟨some ⟨g, 0, none⟩, cap, rfl, rfl, fun _ => ⟨g, 0, rfl, (Array.getElem?_eq_some_iff.1 hg).1, fun k s hk j v hv => ?_⟩⟩
    have h1 := prvs_get l k s j v hk hv
    rw [← hx] at h1
    have h2 : k * 2 + j < l.length * 2 := by have := get_lt h1; rw [hx, prvs_len] at this; exact this
    rw [List.getElem?_take_of_lt h2] at h1
    simp only [World.cell?, hg, Nat.zero_add]
    simpa using h1
theorem OwnS.nil (w : World) (base : Nat) : OwnS w base (.slice none 0 0) [] := ⟨rfl, .inl ⟨rfl, rfl⟩⟩
theorem OwnS.step {w w' : World} {base : Nat} {v : Value} {l : List Pr} (h : OwnS w base v l) (hS : Below w.heap.size w w') : OwnS w' base v l := by
  refine ⟨h.1, ?_⟩
  rcases h.2 with h1 | ⟨g, cap, cur, h1, hb, hg, h2⟩
  · exact .inl h1
  · exact .inr ⟨g, cap, cur, h1, hb, (hS.block g (Array.getElem?_eq_some_iff.1 hg).1).trans hg, h2⟩
theorem OwnS.mono {w : World} {base base' : Nat} {v : Value} {l : List Pr} (h : OwnS w base v l) (hb : base' ≤ base) : OwnS w base' v l := by
  refine ⟨h.1, ?_⟩
  rcases h.2 with h1 | ⟨g, cap, cur, h1, hb', h2⟩
  · exact .inl h1
  · exact .inr ⟨g, cap, cur, h1, by omega, h2⟩
theorem ownBlock_ge {w : World} {base : Nat} {v : Value} {l : List Pr} (h : OwnS w base v l) : ∀ j, v.ownBlock = some j → base ≤ j := fun j hj => by
  rcases h.2 with ⟨rfl, _⟩ | ⟨g, cap, cur, rfl, hb, _⟩
  · simp [Value.ownBlock] at hj
  · obtain rfl : g = j := by simpa [Value.ownBlock] using hj
    exact hb
theorem infoPa : (Try.prog.info? 64).map (fun i => (i.zero, i.size, i.bytes)) = some (some (.agg #[.int .i64 0, .int .i64 0]), 2, 16) := by kernel_rfl
theorem SlS.news {w : World} {ad : Addr} {n : Nat} {l : List Pr} (h : SlS w (some ad) n l) : ∀ j u, (prvs l)[j]? = some u → w.cell? (ad.add j) = some u := fun j u hj => by
  obtain ⟨s, h1, h2⟩ := prvs_at hj
  have hl := get_lt h1
  obtain ⟨b, off, e, hb, hs⟩ := h.2 (by have := h.1; omega)
  cases e
  have h3 := hs _ s h1 _ u h2
  have hadd : (⟨b, off, none⟩ : Addr).add j = ⟨b, off + j, none⟩ := by unfold Addr.add; split <;> simp_all
  rw [hadd, show off + j = off + j / 2 * 2 + j % 2 by omega]; exact h3
theorem own_new (w : World) (l : List Pr) (h : l.length ≤ 1000) : OwnS (w.alloc (.cells (prvs l).toArray 64)) w.heap.size (.slice (some ⟨w.heap.size, 0, none⟩) l.length l.length) l := by
  have hl := prvs_len l
  refine ⟨hl, .inr ⟨w.heap.size, l.length, (prvs l).toArray, rfl, Nat.le_refl _, ?_, Nat.le_refl _, ?_, by simpa using hl, ?_⟩⟩
  · exact Box.new rfl
  · simp [maxLen]; omega
  · rw [List.take_of_length_le (by simpa using Nat.le_of_eq hl)]
theorem own_at {w : World} {base : Nat} {v : Value} {l : List Pr} (n : Nat) (h : OwnS w base v l) (hn : l.length = n) (h0 : 0 < n) : ∃ b off c, v = .slice (some ⟨b, off, none⟩) n c ∧ b < w.heap.size ∧ SAt w b off l := by
  obtain ⟨A, c, h1, h2⟩ := h.sl
  obtain ⟨b, off, rfl, hb, hs⟩ := h2.2 (by omega)
  exact ⟨b, off, c, by rw [h1, hn], hb, hs⟩
theorem wpL_app {ops : Array Oper} {r : List Oper} {o : Oper} {a : Act} {Q : Exit → Act → World → Prop} {w : World} {base g : Nat} {v : Value} {l : List Pr} {t : Pr} (hgd : o.guard = none) (s x : Operand)
    (ho : o.op = .call { callee := .builtin .append, args := #[s, x], argTypes := #[39, 39] }) (hs : a.eval s = v) (hown : OwnS w base v l) (hx : a.eval x = .slice (some ⟨g, 0, none⟩) 1 1) (hat : At' w g 0 (prv t)) (hl : l.length ≤ 100000) (hb : base ≤ w.heap.size)
    (h : ∀ v' w', OwnS w' base v' (l ++ [t]) → (∀ w0, Below base w0 w → Below base w0 w') → wpList Try.prog ops Q r (a.put o.dst v') w') : wpList Try.prog ops Q (o :: r) a w := by
  obtain ⟨i0, hi0, hz0, hz1, hz2⟩ := info_parts infoPa
  refine wpList_append_own _ hgd s x 39 ho base 64 i0 (.agg #[.int .i64 0, .int .i64 0]) 2 16 Try.underlying39 hi0 hz0 hz1 hz2 rfl (by decide) v l.length (prvs l) hs hown ⟨g, 0, none⟩ 1 1 (prv t) hx rfl (fun j u hj => ?_) prv_one (by unfold maxLen; omega) (by omega) hb ?_
  · have := hat j u hj
    have hadd : (⟨g, 0, none⟩ : Addr).add j = ⟨g, 0 + j, none⟩ := by unfold Addr.add; split <;> simp_all
    rw [hadd]; exact this
  · intro v' w' h1 h2 _
    refine h v' w' ?_ fun w0 hB => hB.grown h2 hb fun k hk => ownBlock_ge hown k hk
    unfold OwnS
    rw [prvs_append, List.length_append]
    simpa [prvs] using h1
/-- A slice of pairs, nil only where it has no room. -/
def SlC (w : World) (A : Option Addr) (n cap : Nat) (l : List Pr) : Prop := SlS w A n l ∧ (A = none → cap = 0)
theorem wpL_all {ops : Array Oper} {r : List Oper} {o : Oper} {a : Act} {Q : Exit → Act → World → Prop} {w : World} {base : Nat} {v : Value} {m l : List Pr} {A : Option Addr} {n cap : Nat} (hgd : o.guard = none) (s x : Operand)
    (ho : o.op = .call { callee := .builtin .append, args := #[s, x], argTypes := #[39, 39] }) (hs : a.eval s = v) (hown : OwnS w base v m) (hx : a.eval x = .slice A n cap) (hl : SlC w A n cap l) (hm : m.length ≤ 100000) (hn : n ≤ 100000) (hb : base ≤ w.heap.size)
    (h : ∀ v' w', OwnS w' base v' (m ++ l) → (∀ w0, Below base w0 w → Below base w0 w') → wpList Try.prog ops Q r (a.put o.dst v') w') : wpList Try.prog ops Q (o :: r) a w := by
  obtain ⟨i0, hi0, hz0, hz1, hz2⟩ := info_parts infoPa
  cases A with
  | some ad =>
    have hll := hl.1.1
    refine wpList_append_own _ hgd s x 39 ho base 64 i0 (.agg #[.int .i64 0, .int .i64 0]) 2 16 Try.underlying39 hi0 hz0 hz1 hz2 rfl (by decide) v m.length (prvs m) hs hown ad n cap (prvs l) hx (by rw [prvs_len, hll]) (SlS.news hl.1) prvs_one (by unfold maxLen; omega) (by omega) hb ?_
    intro v' w' h1 h2 _
    refine h v' w' ?_ fun w0 hB => hB.grown h2 hb fun k hk => ownBlock_ge hown k hk
    unfold OwnS
    rw [prvs_append, List.length_append, hll]
    exact h1
  | none =>
    have hc := hl.2 rfl
    have h0 : l = [] := by
      rcases Nat.eq_zero_or_pos n with h0 | h0
      · exact List.eq_nil_of_length_eq_zero (by rw [hl.1.1]; exact h0)
      · obtain ⟨_, _, e, _⟩ := hl.1.2 h0; cases e
    subst h0
    have hn0 : n = 0 := hl.1.1.symm
    subst hc; subst hn0
    refine wpList_append_own_none hgd s x 39 ho base 64 i0 2 Try.underlying39 hi0 v m.length (prvs m) hs hown hx ?_
    exact h v w (by rw [List.append_nil]; exact hown) (fun w0 hB => hB)
end Go.Proofs.Ytbcjnckejkjfeaa
