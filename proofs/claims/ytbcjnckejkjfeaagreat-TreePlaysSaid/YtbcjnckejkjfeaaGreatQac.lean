/- Blocks of a world known whole, and what keeps them. No condition. A phase with one operation that changes the world: R1 ahead of it, R2 behind it. No condition. A phase in which one operation fills a block that the phase makes. No condition. A list of operations, walked one by one. No condition. A phase in which calls leave values that are not known ahead, each with what is said of it. No condition. -/
import Derived.WalkKit
import Derived.Test.YtbcjnckejkjfeaaGreatQab
namespace Go.NP
open Go Go.RowKit
/-- Block b is a row of cells, none of them frozen. -/
def Box (w : World) (b : Nat) (l : List Value) (T : TypeId) : Prop := w.heap[b]? = some (.cells l.toArray T (0, 0))
theorem Box.lt {w : World} {b : Nat} {l : List Value} {T : TypeId} (h : Box w b l T) : b < w.heap.size := by
  rcases Nat.lt_or_ge b w.heap.size with h' | h'
  · exact h'
  · unfold Box at h; rw [Array.getElem?_eq_none h'] at h; cases h
theorem Box.cell {w : World} {b : Nat} {l : List Value} {T : TypeId} (h : Box w b l T) (j : Nat) : w.cell? ⟨b, j, none⟩ = l[j]? := by
  unfold Box at h; simp [World.cell?, h]
theorem Box.free {w : World} {b : Nat} {l : List Value} {T : TypeId} (h : Box w b l T) (j : Nat) : w.frozen? ⟨b, j, none⟩ = false := by
  unfold Box at h; simp [World.frozen?, h]
theorem Box.set {w : World} {b : Nat} {l : List Value} {T : TypeId} (h : Box w b l T) (j : Nat) (v : Value) : Box (w.setCell ⟨b, j, none⟩ v) b (l.set j v) T := by
  have hlt := h.lt
  unfold Box at *
  simp only [World.setCell, Array.getElem?_modify, if_true, h]
  simp
theorem Box.other {w : World} {b : Nat} {l : List Value} {T : TypeId} (h : Box w b l T) {p : Addr} (hp : p.block ≠ b) (v : Value) : Box (w.setCell p v) b l T := by
  unfold Box at *
  simp only [World.setCell, Array.getElem?_modify, if_neg hp, h]
theorem Box.alloc {w : World} {b : Nat} {l : List Value} {T : TypeId} (h : Box w b l T) (o : Obj) : Box (w.alloc o) b l T := by
  have hlt := h.lt
  unfold Box at *
  rw [Below.heap_alloc _ _ _ hlt]; exact h
theorem Box.new {w : World} {l : List Value} {T : TypeId} {n : Nat} (hn : n = w.heap.size) : Box (w.alloc (.cells l.toArray T)) n l T := by
  subst hn
  show (w.heap.push _)[w.heap.size]? = _
  simp
theorem Box.drew {w : World} {b : Nat} {l : List Value} {T : TypeId} (h : Box w b l T) : Box w.drew b l T := h
theorem Box.below {B : Nat} {w w' : World} {b : Nat} {l : List Value} {T : TypeId} (h : Box w b l T) (hb : Below B w w') (hlt : b < B) : Box w' b l T := by
  unfold Box at *
  rw [hb.block b hlt]; exact h
theorem Box.step {w w' : World} {b : Nat} {l : List Value} {T : TypeId} (h : Box w b l T) (hb : Below w.heap.size w w') : Box w' b l T := h.below hb h.lt
theorem Box.cast {w : World} {b : Nat} {l l' : List Value} {T : TypeId} (h : Box w b l T) (e : l = l') : Box w b l' T := e ▸ h
theorem cast_int {k : IntKind} {a b : Int} (h : a = b) : Value.int k a = Value.int k b := by rw [h]
end Go.NP
namespace Go.NP
open Go Go.RowKit
section
variable {P : Program} {Q : Exit → Act → World → Prop}
def SOne (i0 : Nat) (R1 R2 : World → Prop) : (Nat → Bool) → (Nat → Value) → World → Prop := fun L _ w => if L i0 = true then R2 w else R1 w
variable {ls es : List Nat} {T : List (Nat × Option Tmp) → Act → Prop} {ops : Array Oper} {o : Oper} {r : List Oper} {acc : List (Nat × Option Tmp)} {a : Act} {v : Value} {i i0 : Nat} {R1 R2 : World → Prop}
theorem sOne_mark {L : Nat → Bool} {u : Nat → Value} {w : World} (hi : (i != i0) = true) (h : SOne i0 R1 R2 L u w) : SOne i0 R1 R2 (mark L i) u w := by
  unfold SOne at *
  have : mark L i i0 = L i0 := by
    unfold mark
    have h2 : (i0 == i) = false := by simp at hi ⊢; exact fun e => hi e.symm
    rw [h2]; rfl
  rw [this]; exact h
theorem SeqO.val1 (hi : (!ls.contains i && !es.contains i && i != i0) = true) (hw : Region.wanted o (yielded ops a.tmps) = true)
    (h1 : ∀ w, R1 w ∨ R2 w → (execOp a.eval o).run P w = .ok (.value v) w) (h2 : SeqO P ops Q (SOne i0 R1 R2) ls es T (i + 1) r acc (a.put o.dst v)) : SeqO P ops Q (SOne i0 R1 R2) ls es T i (o :: r) acc a := by
  simp only [Bool.and_eq_true, Bool.not_eq_true'] at hi
  unfold SeqO
  rw [if_neg (by rw [hi.1.1]; simp)]
  refine ⟨v, fun L u w hL hS K hK => ?_, fun h => (by rw [hi.1.2] at h; cases h), h2⟩
  rw [if_pos hw]; simp only [Oper.wp, h1 w (by unfold SOne at hS; split at hS; exact .inr hS; exact .inl hS), Oper.upon]; exact hK w (sOne_mark hi.2 hS)
theorem SeqO.skip1 (hi : (!ls.contains i && !es.contains i && i != i0) = true) (hw : Region.wanted o (yielded ops a.tmps) = false)
    (h2 : SeqO P ops Q (SOne i0 R1 R2) ls es T (i + 1) r acc (a.put o.dst undef)) : SeqO P ops Q (SOne i0 R1 R2) ls es T i (o :: r) acc a := by
  simp only [Bool.and_eq_true, Bool.not_eq_true'] at hi
  unfold SeqO
  rw [if_neg (by rw [hi.1.1]; simp)]
  exact ⟨undef, fun L u w hL hS K hK => by rw [if_neg (by rw [hw]; simp)]; exact hK w (sOne_mark hi.2 hS), fun h => (by rw [hi.1.2] at h; cases h), h2⟩
theorem SeqO.one (hi : (!ls.contains i0 && !es.contains i0) = true) (hw : Region.wanted o (yielded ops a.tmps) = true)
    (h1 : ∀ w, R1 w → ∀ K : Act → World → Prop, (∀ w', R2 w' → K (a.put o.dst v) w') → o.wp P a w K (QOut Q)) (h2 : SeqO P ops Q (SOne i0 R1 R2) ls es T (i0 + 1) r acc (a.put o.dst v)) : SeqO P ops Q (SOne i0 R1 R2) ls es T i0 (o :: r) acc a := by
  simp only [Bool.and_eq_true, Bool.not_eq_true'] at hi
  unfold SeqO
  rw [if_neg (by rw [hi.1]; simp)]
  refine ⟨v, fun L u w hL hS K hK => ?_, fun h => (by rw [hi.2] at h; cases h), h2⟩
  rw [if_pos hw]
  unfold SOne at hS
  rw [if_neg (by rw [hL]; simp)] at hS
  refine h1 w hS K fun w' h' => hK w' ?_
  unfold SOne
  rw [if_pos (by simp [mark])]; exact h'
theorem SeqO.call1 {dst : Option Tmp} {x : Operand} {f : FuncId} {ca : Array Value} {xs : Array Operand} {ats : Array TypeId} {ty : TypeId} {pos : String} {after : Array Edge} {guard : Option (Nat × Bool)} {args : Array Value}
    (hi : (!ls.contains i0 && !es.contains i0) = true)
    (hw : Region.wanted { dst, op := .call { callee := .value x, args := xs, argTypes := ats }, type := ty, pos, after, guard } (yielded ops a.tmps) = true) (hx : a.eval x = .func (.func f) #[] ca)
    (hcf : ∀ args w1, (callFunc f args).run P w1 = .ok (.enter f args) w1) (hargs : #[] ++ xs.map a.eval ++ ca = args)
    (h3 : ∀ w, R1 w → Calls P f args w fun e w' => e = .returned v ∧ R2 w') (h2 : SeqO P ops Q (SOne i0 R1 R2) ls es T (i0 + 1) r acc (a.put dst v)) : SeqO P ops Q (SOne i0 R1 R2) ls es T i0 ({ dst, op := .call { callee := .value x, args := xs, argTypes := ats }, type := ty, pos, after, guard } :: r) acc a :=
  SeqO.one hi hw (fun w hS K hK => by
    simp only [Oper.wp, execOp_call_val hx, hcf, hargs, Oper.upon]
    refine (h3 w hS).mono fun e w' ⟨he, hS'⟩ => ?_
    subst he; exact hK w' hS') h2
theorem SeqO.nil1 {m : Nat} {ms : List (Nat × PK)} {l : List Oper} (hm : i0 < m) (h : ∀ w', R2 w' → Ph P l Q ms m a w') :
    SeqO P ops Q (SOne i0 R1 R2) ls es (fun acc a' => ∀ L u w', (∀ j, j < m → L j = true) → SOne i0 R1 R2 L u w' → Ph P l Q ms m (acc.foldl (fun b e => b.put e.2 (u e.1)) a') w') i [] [] a :=
  fun L u w' hL hS => h w' (by unfold SOne at hS; rw [if_pos (hL i0 hm)] at hS; exact hS)
theorem Ph.one {l : List Oper} {m : Nat} {ms : List (Nat × PK)} {k : Nat} {w : World} (i0 : Nat) (R1 R2 : World → Prop) (hk : (decide (k ≤ i0) && decide (i0 < m)) = true) (hR : R1 w)
    (h : SeqO P l.toArray Q (SOne i0 R1 R2) [] [] (fun acc a' => ∀ L u w', (∀ j, j < m → L j = true) → SOne i0 R1 R2 L u w' → Ph P l Q ms m (acc.foldl (fun b e => b.put e.2 (u e.1)) a') w') k ((l.drop k).take (m - k)) [] a) :
    Ph P l Q ((m, .free []) :: ms) k a w := ⟨fun _ _ _ h => (by cases h), _, fun L u hL => by
      simp only [Bool.and_eq_true, decide_eq_true_eq] at hk
      unfold SOne; rw [if_neg (by rw [hL i0 hk.1 hk.2]; simp)]; exact hR, h⟩
end
end Go.NP
namespace Go.NP
open Go Go.RowKit
set_option linter.unusedSimpArgs false
set_option linter.unusedVariables false
section
variable {P : Program} {Q : Exit → Act → World → Prop}
abbrev Al := List (Nat × List Value × TypeId)
/-- The list with one entry's cells changed. -/
def fillAl (j0 : Nat) (cs' : List Value) (al : Al) : Al := al.map fun e => if e.1 = j0 then (e.1, cs', e.2.2) else e
theorem fillAl_all {j0 : Nat} {cs' : List Value} {al : Al} {p : Nat → Bool} : ((fillAl j0 cs' al).all fun e => p e.1) = (al.all fun e => p e.1) := by
  unfold fillAl
  rw [List.all_map]
  congr 1
  funext e
  simp only [Function.comp]
  split <;> rfl
/-- The blocks that were made, one of them being filled by i0. -/
def SRd (W : World) (al : Al) (i0 j0 : Nat) (cs' : List Value) (L : Nat → Bool) (u : Nat → Value) (w : World) : Prop :=
  (L i0 = true → L j0 = true) ∧ SAl W (if L i0 = true then fillAl j0 cs' al else al) L u w
variable {ls es : List Nat} {T : List (Nat × Option Tmp) → Act → Prop} {ops : Array Oper} {o : Oper} {r : List Oper} {acc : List (Nat × Option Tmp)} {a : Act} {v : Value} {i i0 j0 : Nat} {cs' : List Value} {W : World} {al : Al}
theorem mark_ne {L : Nat → Bool} {i j : Nat} (h : (j == i) = false) : mark L i j = L j := by unfold mark; rw [h]; rfl
theorem SRd.below {L : Nat → Bool} {u : Nat → Value} {w : World} (h : SRd W al i0 j0 cs' L u w) : Below W.heap.size W w := h.2.below
theorem SRd.mark {L : Nat → Bool} {u : Nat → Value} {w : World} (h : SRd W al i0 j0 cs' L u w) (hi : (al.all fun e => e.1 != i) = true) (h0 : (i0 == i) = false) : SRd W al i0 j0 cs' (mark L i) u w := by
  obtain ⟨h1, h2⟩ := h
  refine ⟨fun h => ?_, ?_⟩
  · rw [mark_ne h0] at h
    unfold Go.NP.mark; rw [h1 h]; simp
  · rw [mark_ne h0]
    refine h2.mark ?_
    split
    · rw [fillAl_all (p := fun e => e != i)]; exact hi
    · exact hi
theorem SeqO.valR (hi : (!ls.contains i && !es.contains i && (al.all fun e => e.1 != i) && !(i0 == i)) = true) (hw : Region.wanted o (yielded ops a.tmps) = true)
    (h1 : ∀ w, Below W.heap.size W w → (execOp a.eval o).run P w = .ok (.value v) w) (h2 : SeqO P ops Q (SRd W al i0 j0 cs') ls es T (i + 1) r acc (a.put o.dst v)) : SeqO P ops Q (SRd W al i0 j0 cs') ls es T i (o :: r) acc a := by
  simp only [Bool.and_eq_true, Bool.not_eq_true'] at hi
  unfold SeqO
  rw [if_neg (by rw [hi.1.1.1]; simp)]
  exact ⟨v, fun L u w hL hS K hK => by rw [if_pos hw]; simp only [Oper.wp, h1 w hS.below, Oper.upon]; exact hK w (hS.mark hi.1.2 hi.2), fun h => by (rw [hi.1.1.2] at h; cases h), h2⟩
theorem SeqO.allocR {cs : List Value} {Ty : TypeId} (hi : (ls.contains i && !es.contains i && !(i0 == i)) = true) (hin : ∃ T, (i, cs, T) ∈ al) (hone : (al.all fun e => e.1 != i || e.2.2 == Ty) = true) (hone' : ∀ e ∈ al, e.1 = i → e.2.1 = cs) (hw : Region.wanted o (yielded ops a.tmps) = true)
    (h1 : ∀ w, (execOp a.eval o).run P w = .ok (.value (.pointer (some ⟨w.heap.size, 0, none⟩))) (w.alloc (.cells cs.toArray Ty)))
    (h2 : SeqO P ops Q (SRd W al i0 j0 cs') ls es T (i + 1) r (acc ++ [(i, o.dst)]) a) : SeqO P ops Q (SRd W al i0 j0 cs') ls es T i (o :: r) acc a := by
  simp only [Bool.and_eq_true, Bool.not_eq_true'] at hi
  unfold SeqO
  rw [if_pos hi.1.1]
  unfold LooseOr
  rw [if_neg (by rw [hi.1.2]; simp)]
  refine ⟨fun L u w hL hS K hK => ?_, h2⟩
  rw [if_pos hw]; simp only [Oper.wp, h1 w, Oper.upon]
  obtain ⟨T', hin⟩ := hin
  simp only [List.all_eq_true, Bool.or_eq_true, bne_iff_ne, beq_iff_eq] at hone
  have hT' : T' = Ty := by rcases hone _ hin with h | h
                           · exact absurd rfl h
                           · exact h
  subst hT'
  have hone2 : ∀ e ∈ al, e.1 = i → e = (i, cs, T') := fun e he hei => by
    have h3 := hone' e he hei
    have h4 : e.2.2 = T' := by rcases hone e he with h | h
                               · exact absurd hei h
                               · exact h
    obtain ⟨e1, e2, e3⟩ := e
    simp only at hei h3 h4
    rw [hei, h3, h4]
  obtain ⟨hS1, hS2⟩ := hS
  refine hK _ _ ⟨fun h => ?_, ?_⟩
  · rw [mark_ne hi.2] at h
    unfold Go.NP.mark; rw [hS1 h]; simp
  · rw [mark_ne hi.2]
    by_cases hi0 : L i0 = true
    · rw [if_pos hi0] at hS2 ⊢
      refine hS2.fill fun e he hei => ?_
      have hj : j0 ≠ i := fun h => by rw [← h, hS1 hi0] at hL; cases hL
      unfold fillAl at he
      rw [List.mem_map] at he
      obtain ⟨e', he', rfl⟩ := he
      split at hei
      · rename_i hc; exact absurd (hc.symm.trans hei) hj
      · rename_i hc; rw [if_neg hc]; exact hone2 e' he' hei
    · rw [if_neg hi0] at hS2 ⊢
      exact hS2.fill hone2
/-- The one that fills. -/
theorem SeqO.fillR {cs : List Value} {Ty : TypeId} {d : Option Tmp} (F : World → Nat → World) (hi : (ls.contains i0 && es.contains i0 && (al.all fun e => e.1 != i0) && !(j0 == i0)) = true) (hin : (j0, cs, Ty) ∈ al) (hacc : (j0, d) ∈ acc) (hd : o.dst = none)
    (hone : ∀ e ∈ al, e.1 = j0 → e = (j0, cs, Ty))
    (hw : ∀ u : Nat → Value, Region.wanted o (yielded ops (acc.foldl (fun b e => b.put e.2 (u e.1)) a).tmps) = true)
    (h1 : ∀ (u : Nat → Value) (g : Nat) (w : World), u j0 = .pointer (some ⟨g, 0, none⟩) → Box w g cs Ty → (execOp (acc.foldl (fun b e => b.put e.2 (u e.1)) a).eval o).run P w = .ok .skip (F w g))
    (hB : ∀ w g, Box w g cs Ty → Box (F w g) g cs' Ty)
    (hO : ∀ w g b c Tb, b ≠ g → Box w b c Tb → Box (F w g) b c Tb)
    (hF : ∀ w g, Below W.heap.size W w → W.heap.size ≤ g → Below W.heap.size W (F w g))
    (h2 : SeqO P ops Q (SRd W al i0 j0 cs') ls es T (i0 + 1) r (acc ++ [(i0, o.dst)]) a) : SeqO P ops Q (SRd W al i0 j0 cs') ls es T i0 (o :: r) acc a := by
  simp only [Bool.and_eq_true, Bool.not_eq_true'] at hi
  obtain ⟨⟨⟨hi1, hi2⟩, hi3⟩, hi4⟩ := hi
  unfold SeqO
  rw [if_pos hi1]
  unfold LooseOr
  rw [if_pos hi2]
  refine ⟨fun L u w hL hA hS K hK => ?_, h2⟩
  rw [if_pos (hw u)]
  obtain ⟨hS1, hS2⟩ := hS
  rw [if_neg (by rw [hL]; simp)] at hS2
  obtain ⟨g, hg, hge, hb⟩ := hS2.made _ hin (hA _ hacc)
  have hb : Box w g cs Ty := hb
  simp only [Oper.wp, h1 u g w hg hb, Oper.upon]
  have hm0 : Go.NP.mark L i0 i0 = true := by simp [Go.NP.mark]
  have hmj : Go.NP.mark L i0 j0 = L j0 := mark_ne hi4
  simp only [List.all_eq_true, bne_iff_ne] at hi3
  have hmk : ∀ e ∈ al, Go.NP.mark L i0 e.1 = L e.1 := fun e he => mark_ne (by simpa using hi3 e he)
  have huk : ∀ e ∈ al, upd u i0 undef e.1 = u e.1 := fun e he => by simp [upd, hi3 e he]
  have hfe : ∀ e ∈ fillAl j0 cs' al, ∃ e' ∈ al, e.1 = e'.1 ∧ ((e'.1 = j0 ∧ e = (j0, cs', Ty)) ∨ (e'.1 ≠ j0 ∧ e = e')) := by
    intro e he
    unfold fillAl at he
    rw [List.mem_map] at he
    obtain ⟨e', he', rfl⟩ := he
    refine ⟨e', he', ?_, ?_⟩
    · split <;> rfl
    · by_cases hc : e'.1 = j0
      · left; refine ⟨hc, ?_⟩
        rw [if_pos hc, hone e' he' hc]
      · right; exact ⟨hc, if_neg hc⟩
  refine hK undef _ ⟨fun _ => by rw [hmj]; exact hA _ hacc, ?_⟩
  rw [if_pos hm0]
  refine ⟨hF w g hS2.below hge, fun e he hLe => ?_, fun e he e' he' hLe hLe' hne => ?_⟩
  · obtain ⟨e', he', h3, h4⟩ := hfe e he
    rw [h3] at hLe
    rw [hmk e' he'] at hLe
    rcases h4 with ⟨h5, rfl⟩ | ⟨h5, rfl⟩
    · refine ⟨g, ?_, hge, hB w g hb⟩
      show upd u i0 undef j0 = _
      have := huk _ hin
      rw [this]; exact hg
    · obtain ⟨g', h6, h7, h8⟩ := hS2.made e he' hLe
      refine ⟨g', by rw [huk e he']; exact h6, h7, hO w g g' _ _ ?_ h8⟩
      intro hgg
      refine hS2.ne e he' _ hin hLe (hA _ hacc) h5 ?_
      rw [h6, hg, hgg]
  · obtain ⟨x, hx, h3, _⟩ := hfe e he
    obtain ⟨y, hy, h4, _⟩ := hfe e' he'
    rw [h3] at hLe hne ⊢
    rw [h4] at hLe' hne ⊢
    rw [hmk x hx] at hLe
    rw [hmk y hy] at hLe'
    rw [huk x hx, huk y hy]
    exact hS2.ne x hx y hy hLe hLe' hne
theorem SeqO.nilR {m : Nat} {ms : List (Nat × PK)} {l : List Oper} (hm : i0 < m) (h : ∀ L u w', (∀ j, j < m → L j = true) → SAl W (fillAl j0 cs' al) L u w' → Ph P l Q ms m (acc.foldl (fun b e => b.put e.2 (u e.1)) a) w') :
    SeqO P ops Q (SRd W al i0 j0 cs') ls es (fun acc a' => ∀ L u w', (∀ j, j < m → L j = true) → SRd W al i0 j0 cs' L u w' → Ph P l Q ms m (acc.foldl (fun b e => b.put e.2 (u e.1)) a') w') i [] acc a :=
  fun L u w' hL hS => h L u w' hL (by have := hS.2; rw [if_pos (hL i0 hm)] at this; exact this)
theorem Ph.filld {l : List Oper} {m : Nat} {ls es : List Nat} {ms : List (Nat × PK)} {k : Nat} {w : World} (al : Al) (i0 j0 : Nat) (cs' : List Value) (hal : ((al.all fun e => decide (k ≤ e.1) && decide (e.1 < m)) && decide (k ≤ i0) && decide (i0 < m)) = true)
    (hQ : ∀ d c a v w, Q (.panic c) (Act.put a d v) w → Q (.panic c) a w)
    (h : SeqO P l.toArray Q (SRd w al i0 j0 cs') ls es (fun acc a' => ∀ L u w', (∀ j, j < m → L j = true) → SRd w al i0 j0 cs' L u w' → Ph P l Q ms m (acc.foldl (fun b e => b.put e.2 (u e.1)) a') w') k ((l.drop k).take (m - k)) [] a) :
    Ph P l Q ((m, .fre ls es) :: ms) k a w.drew := by
  simp only [Bool.and_eq_true, decide_eq_true_eq] at hal
  refine ⟨fun _ o _ _ => hQ o.dst, _, fun L u hL => ⟨fun h => ?_, ?_⟩, h⟩
  · rw [hL i0 hal.1.2 hal.2] at h; cases h
  · rw [if_neg (by rw [hL i0 hal.1.2 hal.2]; simp)]
    exact SAl.start hal.1.1 (Below.refl _ _).drew L u hL
theorem wpList_store {w w' : World} (hw : Region.wanted o (yielded ops a.tmps) = true) (h1 : (execOp a.eval o).run P w = .ok .skip w') (h : wpList P ops Q r (a.put o.dst undef) w') : wpList P ops Q (o :: r) a w := by
  unfold wpList
  rw [if_pos hw]
  left
  simp only [Oper.wp, h1, Oper.upon]
  exact h
theorem SeqO.store1 {R1 R2 : World → Prop} (F : World → World) (hi : (!ls.contains i0 && !es.contains i0) = true) (hw : Region.wanted o (yielded ops a.tmps) = true)
    (h1 : ∀ w, R1 w → (execOp a.eval o).run P w = .ok .skip (F w)) (hF : ∀ w, R1 w → R2 (F w)) (h2 : SeqO P ops Q (SOne i0 R1 R2) ls es T (i0 + 1) r acc (a.put o.dst undef)) : SeqO P ops Q (SOne i0 R1 R2) ls es T i0 (o :: r) acc a :=
  SeqO.one (v := undef) hi hw (fun w hR K hK => by simp only [Oper.wp, h1 w hR, Oper.upon]; exact hK _ (hF w hR)) h2
end
end Go.NP
namespace Go.NP
open Go Go.RowKit
section
variable {P : Program} {Q : Exit → Act → World → Prop} {ops : Array Oper} {o : Oper} {r : List Oper} {a : Act} {v : Value} {w : World}
theorem wpL_val (hw : Region.wanted o (yielded ops a.tmps) = true) (h1 : (execOp a.eval o).run P w = .ok (.value v) w) (h : wpList P ops Q r (a.put o.dst v) w) : wpList P ops Q (o :: r) a w := by
  unfold wpList
  rw [if_pos hw]
  left
  simp only [Oper.wp, h1, Oper.upon]
  exact h
theorem wpL_skip (hw : Region.wanted o (yielded ops a.tmps) = false) (h : wpList P ops Q r (a.put o.dst undef) w) : wpList P ops Q (o :: r) a w := by
  unfold wpList
  rw [if_neg (by rw [hw]; simp)]
  exact h
theorem wpL_call {dst : Option Tmp} {x : Operand} {f : FuncId} {ca : Array Value} {xs : Array Operand} {ats : Array TypeId} {ty : TypeId} {pos : String} {after : Array Edge} {guard : Option (Nat × Bool)} {args : Array Value}
    (hw : Region.wanted { dst, op := .call { callee := .value x, args := xs, argTypes := ats }, type := ty, pos, after, guard } (yielded ops a.tmps) = true) (hx : a.eval x = .func (.func f) #[] ca)
    (hcf : ∀ args w1, (callFunc f args).run P w1 = .ok (.enter f args) w1) (hargs : #[] ++ xs.map a.eval ++ ca = args)
    (h : Calls P f args w fun e w' => ∃ v, e = .returned v ∧ wpList P ops Q r (a.put dst v) w') : wpList P ops Q ({ dst, op := .call { callee := .value x, args := xs, argTypes := ats }, type := ty, pos, after, guard } :: r) a w := by
  unfold wpList
  rw [if_pos hw]
  left
  simp only [Oper.wp, execOp_call_val hx, hcf, hargs, Oper.upon]
  refine h.mono fun e w' ⟨v, he, h⟩ => ?_
  subst he
  exact h
end
end Go.NP
namespace Go.NP
open Go Go.RowKit
set_option linter.unusedSimpArgs false
set_option linter.unusedVariables false
/-- What is said of a value, and goes on being said of it. -/
structure Keep where
  p : Value → World → Prop
  st : ∀ x w w', p x w → Below w.heap.size w w' → p x w'
abbrev Kl := List (Nat × Keep)
section
variable {P : Program} {Q : Exit → Act → World → Prop}
def SG (W : World) (Pr : Kl) (L : Nat → Bool) (u : Nat → Value) (w : World) : Prop := Below W.heap.size W w ∧ ∀ e ∈ Pr, L e.1 = true → e.2.p (u e.1) w
variable {ls es : List Nat} {T : List (Nat × Option Tmp) → Act → Prop} {ops : Array Oper} {o : Oper} {r : List Oper} {acc : List (Nat × Option Tmp)} {a : Act} {v : Value} {i : Nat} {W : World} {Pr : Kl}
theorem SG.step {L : Nat → Bool} {u : Nat → Value} {w w' : World} (h : SG W Pr L u w) (hb : Below w.heap.size w w') : SG W Pr L u w' :=
  ⟨h.1.trans (hb.mono h.1.size), fun e he hL => e.2.st _ _ _ (h.2 e he hL) hb⟩
theorem SG.mark {L : Nat → Bool} {u : Nat → Value} {w : World} (h : SG W Pr L u w) (hi : (Pr.all fun e => e.1 != i) = true) : SG W Pr (mark L i) u w := by
  simp only [List.all_eq_true, bne_iff_ne] at hi
  refine ⟨h.1, fun e he hL => h.2 e he ?_⟩
  have h2 : (e.1 == i) = false := by simpa using hi e he
  unfold Go.NP.mark at hL
  rw [h2] at hL; exact hL
theorem SG.fill {L : Nat → Bool} {u : Nat → Value} {w : World} {K : Keep} {x : Value} (h : SG W Pr L u w) (hone : ∀ e ∈ Pr, e.1 = i → e.2 = K) (hx : K.p x w) : SG W Pr (Go.NP.mark L i) (upd u i x) w := by
  refine ⟨h.1, fun e he hL => ?_⟩
  by_cases hei : e.1 = i
  · rw [hone e he hei, show upd u i x e.1 = x by simp [upd, hei]]; exact hx
  · have h2 : (e.1 == i) = false := by simpa using hei
    unfold Go.NP.mark at hL
    rw [h2] at hL
    rw [show upd u i x e.1 = u e.1 by simp [upd, hei]]
    exact h.2 e he hL
theorem SeqO.valG (hi : (!ls.contains i && !es.contains i && Pr.all fun e => e.1 != i) = true) (hw : Region.wanted o (yielded ops a.tmps) = true)
    (h1 : ∀ w, Below W.heap.size W w → (execOp a.eval o).run P w = .ok (.value v) w) (h2 : SeqO P ops Q (SG W Pr) ls es T (i + 1) r acc (a.put o.dst v)) : SeqO P ops Q (SG W Pr) ls es T i (o :: r) acc a := by
  simp only [Bool.and_eq_true, Bool.not_eq_true'] at hi
  unfold SeqO
  rw [if_neg (by rw [hi.1.1]; simp)]
  exact ⟨v, fun L u w hL hS K hK => by rw [if_pos hw]; simp only [Oper.wp, h1 w hS.1, Oper.upon]; exact hK w (hS.mark hi.2), fun h => by (rw [hi.1.2] at h; cases h), h2⟩
theorem SeqO.wpG (hi : (!ls.contains i && !es.contains i && Pr.all fun e => e.1 != i) = true) (hw : Region.wanted o (yielded ops a.tmps) = true)
    (h1 : ∀ w, Below W.heap.size W w → ∀ K : Act → World → Prop, (∀ w', Below w.heap.size w w' → K (a.put o.dst v) w') → o.wp P a w K (QOut Q)) (h2 : SeqO P ops Q (SG W Pr) ls es T (i + 1) r acc (a.put o.dst v)) : SeqO P ops Q (SG W Pr) ls es T i (o :: r) acc a := by
  simp only [Bool.and_eq_true, Bool.not_eq_true'] at hi
  unfold SeqO
  rw [if_neg (by rw [hi.1.1]; simp)]
  exact ⟨v, fun L u w hL hS K hK => by rw [if_pos hw]; exact h1 w hS.1 K (fun w' hb => hK w' ((hS.step hb).mark hi.2)), fun h => by (rw [hi.1.2] at h; cases h), h2⟩
/-- A call that returns a known value. -/
theorem SeqO.callvG {dst : Option Tmp} {x : Operand} {f : FuncId} {ca : Array Value} {xs : Array Operand} {ats : Array TypeId} {ty : TypeId} {pos : String} {after : Array Edge} {guard : Option (Nat × Bool)} {args : Array Value}
    (hi : (!ls.contains i && !es.contains i && Pr.all fun e => e.1 != i) = true)
    (hw : Region.wanted { dst, op := .call { callee := .value x, args := xs, argTypes := ats }, type := ty, pos, after, guard } (yielded ops a.tmps) = true) (hx : a.eval x = .func (.func f) #[] ca)
    (hcf : ∀ args w1, (callFunc f args).run P w1 = .ok (.enter f args) w1) (hargs : #[] ++ xs.map a.eval ++ ca = args)
    (h3 : ∀ w, Below W.heap.size W w → Calls P f args w fun e w' => e = .returned v ∧ Below w.heap.size w w') (h2 : SeqO P ops Q (SG W Pr) ls es T (i + 1) r acc (a.put dst v)) : SeqO P ops Q (SG W Pr) ls es T i ({ dst, op := .call { callee := .value x, args := xs, argTypes := ats }, type := ty, pos, after, guard } :: r) acc a :=
  SeqO.wpG hi hw (fun w hS K hK => by
    simp only [Oper.wp, execOp_call_val hx, hcf, hargs, Oper.upon]
    refine (h3 w hS).mono fun e w' ⟨he, hS'⟩ => ?_
    subst he; exact hK w' hS') h2
/-- What a call returns, when that hangs on the world: something of which K is said. -/
def RetK (P : Program) (f : FuncId) (args : Array Value) (w : World) (K : Keep) : Prop := Calls P f args w fun e w' => ∃ x, e = .returned x ∧ K.p x w' ∧ Below w.heap.size w w'
/-- A call that returns something not known ahead. -/
theorem SeqO.callG {dst : Option Tmp} {x : Operand} {f : FuncId} {ca : Array Value} {xs : Array Operand} {ats : Array TypeId} {ty : TypeId} {pos : String} {after : Array Edge} {guard : Option (Nat × Bool)} {args : Array Value} (K : Keep)
    (hi : (ls.contains i && !es.contains i) = true) (hone : ∀ e ∈ Pr, e.1 = i → e.2 = K)
    (hw : Region.wanted { dst, op := .call { callee := .value x, args := xs, argTypes := ats }, type := ty, pos, after, guard } (yielded ops a.tmps) = true) (hx : a.eval x = .func (.func f) #[] ca)
    (hcf : ∀ args w1, (callFunc f args).run P w1 = .ok (.enter f args) w1) (hargs : #[] ++ xs.map a.eval ++ ca = args)
    (h3 : ∀ w, Below W.heap.size W w → RetK P f args w K) (h2 : SeqO P ops Q (SG W Pr) ls es T (i + 1) r (acc ++ [(i, dst)]) a) : SeqO P ops Q (SG W Pr) ls es T i ({ dst, op := .call { callee := .value x, args := xs, argTypes := ats }, type := ty, pos, after, guard } :: r) acc a := by
  simp only [Bool.and_eq_true, Bool.not_eq_true'] at hi
  unfold SeqO
  rw [if_pos hi.1]
  unfold LooseOr
  rw [if_neg (by rw [hi.2]; simp)]
  refine ⟨fun L u w hL hS K' hK => ?_, h2⟩
  rw [if_pos hw]
  simp only [Oper.wp, execOp_call_val hx, hcf, hargs, Oper.upon]
  refine (h3 w hS.1).mono fun e w' ⟨x, he, hx, hS'⟩ => ?_
  subst he; exact hK x w' ((hS.step hS').fill hone hx)
theorem SeqO.nilG {m : Nat} {ms : List (Nat × PK)} {l : List Oper} (hm : (Pr.all fun e => decide (e.1 < m)) = true) (h : ∀ (u : Nat → Value) w', Below W.heap.size W w' → (∀ e ∈ Pr, e.2.p (u e.1) w') → Ph P l Q ms m (acc.foldl (fun b e => b.put e.2 (u e.1)) a) w') :
    SeqO P ops Q (SG W Pr) ls es (fun acc a' => ∀ L u w', (∀ j, j < m → L j = true) → SG W Pr L u w' → Ph P l Q ms m (acc.foldl (fun b e => b.put e.2 (u e.1)) a') w') i [] acc a :=
  fun L u w' hL hS => h u w' hS.1 fun e he => hS.2 e he (hL _ (by simp only [List.all_eq_true, decide_eq_true_eq] at hm; exact hm e he))
theorem SG.start {k m : Nat} (hal : (Pr.all fun e => decide (k ≤ e.1) && decide (e.1 < m)) = true) {w : World} (hb : Below W.heap.size W w) (L : Nat → Bool) (u : Nat → Value) (hL : ∀ j, k ≤ j → j < m → L j = false) : SG W Pr L u w := by
  simp only [List.all_eq_true, Bool.and_eq_true, decide_eq_true_eq] at hal
  exact ⟨hb, fun e he h => by (rw [hL _ (hal e he).1 (hal e he).2] at h; cases h)⟩
theorem Ph.gen {l : List Oper} {m : Nat} {ls : List Nat} {ms : List (Nat × PK)} {k : Nat} {w : World} (Pr : Kl) (hal : (Pr.all fun e => decide (k ≤ e.1) && decide (e.1 < m)) = true)
    (h : SeqO P l.toArray Q (SG w Pr) ls [] (fun acc a' => ∀ L u w', (∀ j, j < m → L j = true) → SG w Pr L u w' → Ph P l Q ms m (acc.foldl (fun b e => b.put e.2 (u e.1)) a') w') k ((l.drop k).take (m - k)) [] a) :
    Ph P l Q ((m, .free ls) :: ms) k a w := ⟨fun _ _ _ h => (by cases h), _, fun L u hL => SG.start hal (Below.refl _ _) L u hL, h⟩
theorem Ph.gend {l : List Oper} {m : Nat} {ls : List Nat} {ms : List (Nat × PK)} {k : Nat} {w : World} (Pr : Kl) (hal : (Pr.all fun e => decide (k ≤ e.1) && decide (e.1 < m)) = true)
    (h : SeqO P l.toArray Q (SG w Pr) ls [] (fun acc a' => ∀ L u w', (∀ j, j < m → L j = true) → SG w Pr L u w' → Ph P l Q ms m (acc.foldl (fun b e => b.put e.2 (u e.1)) a') w') k ((l.drop k).take (m - k)) [] a) :
    Ph P l Q ((m, .free ls) :: ms) k a w.drew := ⟨fun _ _ _ h => (by cases h), _, fun L u hL => SG.start hal (Below.refl _ _).drew L u hL, h⟩
/-- A new row of cells, and nothing else. -/
def newR (B n : Nat) (l : List Value) (T : TypeId) : Keep where
  p x w := ∃ g, x = .slice (some ⟨g, 0, none⟩) n n ∧ B ≤ g ∧ Box w g l T
  st x w w' h hb := by
    obtain ⟨g, h1, h2, h3⟩ := h
    exact ⟨g, h1, h2, h3.step hb⟩
end
end Go.NP
