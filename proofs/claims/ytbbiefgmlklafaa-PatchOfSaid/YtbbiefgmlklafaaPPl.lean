/- What a patch is: plain laws. No condition. -/
import Derived.Test.YtbbiefgmlklafaaPGr
import Derived.Test.YtbbiefgmlklafaaPCk
import Derived.Lib.SlicesCompact
import Derived.Test.YtbbiefgmlklafaaMemS
namespace Go.Proofs.Ytbbiefgmlklafaa
set_option linter.unusedVariables false
set_option linter.unusedSimpArgs false
open Go.RowKit Go.NP
namespace PPl
open PGr PCk PCl
def zsp : Spo := ⟨0, 0, ⟨0, 0, 0⟩⟩
def nth (l : List Spo) (k : Nat) : Spo := l.getD k zsp
theorem nth_get {l : List Spo} {k : Nat} (h : k < l.length) : l[k]? = some (nth l k) := by
  unfold nth; rw [List.getD_eq_getElem?_getD, List.getElem?_eq_getElem h]; rfl
theorem nth_mem {l : List Spo} {k : Nat} (h : k < l.length) : nth l k ∈ l := List.mem_of_getElem? (nth_get h)
def fA (l : List Spo) (s : Spo) : Int := GDot.far s.p (nth l 0).p
def at1 (l : List Spo) : Nat := (best (fA l) l).at_
def fB (l : List Spo) (s : Spo) : Int := GAr.area (nth l 0).p (nth l (at1 l)).p s.p
def at2 (l : List Spo) : Nat := (best (fB l) l).at_
def fC (l : List Spo) (s : Spo) : Int := least (least (GDot.far s.p (nth l 0).p) (GDot.far s.p (nth l (at1 l)).p)) (GDot.far s.p (nth l (at2 l)).p)
def at3 (l : List Spo) : Nat := (best (fC l) l).at_
/-- The four places, in order. -/
def four (l : List Spo) : List Int := ([0, (at1 l : Int), (at2 l : Int), (at3 l : Int)] : List Int).mergeSort fun x y => decide (x ≤ y)
def places (l : List Spo) : List Int := Lib.compact (four l)
def patchS (l : List Spo) : List Spo := if checkS l = 0 then (if l.length ≤ 4 then l else (places l).map fun i => nth l i.toNat) else []
theorem fitB {a b c : Spo} (ha : a.p.ok) (hb : b.p.ok) (hc : c.p.ok) : fits (GAr.area a.p b.p c.p) := by
  have hu := PSp.psub_sP hb ha; have hv := PSp.psub_sP hc ha
  have q1 := GAr.sq_le (GAr.cx61 hu hv); have q2 := GAr.sq_le (GAr.cy61 hu hv); have q3 := GAr.sq_le (GAr.cz61 hu hv)
  exact GAr.fit124 (by unfold GAr.area; omega) (by unfold GAr.area; omega)
theorem fitC {a b c s : Spo} (ha : a.p.ok) (hb : b.p.ok) (hc : c.p.ok) (hs : s.p.ok) : fits (least (least (GDot.far s.p a.p) (GDot.far s.p b.p)) (GDot.far s.p c.p)) := by
  have f1 := WidB.half_fits (far_half hs ha); have f2 := WidB.half_fits (far_half hs hb); have f3 := WidB.half_fits (far_half hs hc)
  unfold least; split <;> split <;> assumption
theorem best_lt (f : Spo → Int) {l : List Spo} (h : l ≠ []) : (best f l).at_ < l.length := by
  have : ∀ (l : List Spo) (b : Best), (b.k = 0 → b.at_ = 0) → (b.k ≠ 0 → b.at_ < b.k) → (b.k ≠ 0 ∨ l ≠ []) → (l.foldl (PGr.step f) b).at_ < b.k + l.length := by
    intro l
    induction l with
    | nil => intro b _ h2 h3; simp at h3 ⊢; exact h2 h3
    | cons x r ih =>
      intro b h1 h2 _
      rw [List.foldl_cons, List.length_cons]
      have hk := step_k f b x
      have := ih (PGr.step f b x) (fun e => by omega) (fun _ => by
        unfold PGr.step; split
        · simp
        · rename_i hn
          have hb : b.k ≠ 0 := fun e => hn (.inl e)
          have := h2 hb
          simp; omega) (.inl (by omega))
      omega
  have := this l ⟨0, 0, 0⟩ (fun _ => rfl) (fun h => absurd rfl h) (.inr h)
  simpa [best] using this
theorem four_len (l : List Spo) : (four l).length = 4 := by unfold four; rw [List.length_mergeSort]; rfl
theorem four_mem {l : List Spo} {i : Int} : i ∈ four l ↔ i = 0 ∨ i = at1 l ∨ i = at2 l ∨ i = at3 l := by
  unfold four
  rw [List.mem_mergeSort]; simp
theorem places_len (l : List Spo) : (places l).length ≤ 4 := by
  have : (places l).length ≤ (four l).length := by
    unfold places Lib.compact Lib.compactUpTo
    rw [List.length_map]
    exact Nat.le_trans (List.length_filter_le _ _) (by simp)
  rw [four_len] at this; exact this
theorem compact_mem {l : List Int} {i : Int} (h : i ∈ Lib.compact l) : i ∈ l := by
  unfold Lib.compact Lib.compactUpTo at h
  obtain ⟨j, hj, rfl⟩ := List.mem_map.1 h
  have hj' : j < l.length := by simpa using (List.mem_filter.1 hj).1
  rw [getElem!_pos _ _ (by simpa using hj')]
  simp
theorem places_mem {l : List Spo} {i : Int} (h : i ∈ places l) : i = 0 ∨ i = at1 l ∨ i = at2 l ∨ i = at3 l := four_mem.1 (compact_mem h)
theorem checkS_ok {l : List Spo} (h : checkS l = 0) : l.length ≤ 256 ∧ named l ∧ ∀ s ∈ l, s.p.ok := by
  unfold checkS at h
  split at h
  · exact absurd h (by decide)
  · split at h
    · split at h
      · exact ⟨by omega, by assumption, by assumption⟩
      · exact absurd h (by decide)
    · exact absurd h (by decide)
end PPl
end Go.Proofs.Ytbbiefgmlklafaa
