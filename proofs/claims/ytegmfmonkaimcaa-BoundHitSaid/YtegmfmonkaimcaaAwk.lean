/- Some answers that the document fixes: the walk. No condition. -/
import Derived.Test.YtegmfmonkaimcaaHit2
import Derived.Test.YtegmfmonkaimcaaBnd6
namespace Go.Proofs.Ytegmfmonkaimcaa
set_option linter.unusedVariables false
set_option linter.unusedSimpArgs false
open Go.RowKit Go.NP
theorem hitC (a : Bd) (f t : Pt) (w : World) : RetB Try.prog 16 #[.agg #[.int .i64 a.lo.x, .int .i64 a.lo.y, .int .i64 a.lo.z, .int .i64 a.hi.x, .int .i64 a.hi.y, .int .i64 a.hi.z], .agg #[.int .i64 f.x, .int .i64 f.y, .int .i64 f.z], .agg #[.int .i64 t.x, .int .i64 t.y, .int .i64 t.z]] w (.bool (hitS a f t)) := by
  by_cases h : a.ok ∧ f.ok ∧ t.ok
  · exact hitY a f t h.1 h.2.1 h.2.2 w
  · rw [hit_no h]; exact hitN a f t h w
theorem ofS_ex : ofS [⟨1, 2, 3⟩, ⟨0, 5, 3⟩] 1 = (⟨⟨-1, 1, 2⟩, ⟨2, 6, 4⟩⟩, 0) := by decide
theorem size_ex : size ⟨⟨-1, 1, 2⟩, ⟨2, 6, 4⟩⟩ = 10 := by decide
theorem hit_ex1 : hitS ⟨⟨0, 0, 0⟩, ⟨2, 2, 2⟩⟩ ⟨-1, 0, 1⟩ ⟨1, 4, 1⟩ = true := by decide
theorem hit_ex2 : hitS ⟨⟨0, 0, 0⟩, ⟨2, 2, 2⟩⟩ ⟨-1, 1, 1⟩ ⟨1, 4, 1⟩ = false := by decide
theorem pAt_two {w : World} {b : Nat} {p q : Pt} {T : TypeId} (h : Box w b [.int .i64 p.x, .int .i64 p.y, .int .i64 p.z, .int .i64 q.x, .int .i64 q.y, .int .i64 q.z] T) : PAt w b 0 [p, q] := by
  intro k x hx
  rcases k with _ | _ | k
  · obtain rfl : p = x := by simpa using hx
    exact ⟨h.cell 0, h.cell 1, h.cell 2⟩
  · obtain rfl : q = x := by simpa using hx
    exact ⟨h.cell 3, h.cell 4, h.cell 5⟩
  · simp at hx
set_option maxRecDepth 100000 in
set_option maxHeartbeats 2000000 in
theorem awakeC (w : World) : RetB Try.prog 11 #[] w (.bool true) := by
  unfold RetB
  go_enter Try.func11, Try.ntmps11
  go_wp2_with fail
  refine ((ofC ⟨1, 2, 3⟩ [⟨0, 5, 3⟩] 1 w.heap.size 0 2 _ (by simp) (pAt_two (Box.new rfl)) (by simp) (by omega) (by omega)).eq (v' := .tuple #[.agg #[.int .i64 (⟨⟨-1, 1, 2⟩, ⟨2, 6, 4⟩⟩ : Bd).lo.x, .int .i64 (⟨⟨-1, 1, 2⟩, ⟨2, 6, 4⟩⟩ : Bd).lo.y, .int .i64 (⟨⟨-1, 1, 2⟩, ⟨2, 6, 4⟩⟩ : Bd).lo.z, .int .i64 (⟨⟨-1, 1, 2⟩, ⟨2, 6, 4⟩⟩ : Bd).hi.x, .int .i64 (⟨⟨-1, 1, 2⟩, ⟨2, 6, 4⟩⟩ : Bd).hi.y, .int .i64 (⟨⟨-1, 1, 2⟩, ⟨2, 6, 4⟩⟩ : Bd).hi.z], .int .i64 0]) (by rw [ofS_ex])).mono ?_
  rintro e w1 ⟨rfl, hS⟩
  have hW : Below w.heap.size w w1 := ((Below.refl _ _).alloc (Nat.le_refl _) _).trans (hS.mono (by simp))
  clear hS
  have g0 := hW.size
  go_wp2_with fail
  refine ((sizeC ⟨⟨-1, 1, 2⟩, ⟨2, 6, 4⟩⟩ _).eq (v' := .int .i64 10) (by rw [size_ex])).mono ?_
  rintro e w2 ⟨rfl, hS⟩
  have hC : Box w2 (w1.heap.size + 1) [.int .i64 0, .int .i64 0, .int .i64 0, .int .i64 2, .int .i64 2, .int .i64 2] 26 := (Box.new (by simp)).step hS
  have hW2 : Below w.heap.size w w2 := ((hW.alloc g0 _).alloc (by simp; omega) _).trans (hS.mono (by simp; omega))
  have g1 := hW2.size
  have c0 := (hC).cell 0; have c1 := (hC).cell 1; have c2 := (hC).cell 2; have c3 := (hC).cell 3; have c4 := (hC).cell 4; have c5 := (hC).cell 5; have cf := (hC).free
  simp only [List.getElem?_cons_zero, List.getElem?_cons_succ] at c0 c1 c2 c3 c4 c5
  clear hS
  go_wp2_with fail
  refine ((hitC ⟨⟨0, 0, 0⟩, ⟨2, 2, 2⟩⟩ ⟨-1, 0, 1⟩ ⟨1, 4, 1⟩ _).eq (v' := .bool true) (by rw [hit_ex1])).mono ?_
  rintro e w3 ⟨rfl, hS⟩
  have hC3 := hC.step hS
  have hW3 : Below w.heap.size w w3 := hW2.trans (hS.mono g1)
  have g2 := hW3.size
  clear c0 c1 c2 c3 c4 c5 cf
  have c0 := (hC3).cell 0; have c1 := (hC3).cell 1; have c2 := (hC3).cell 2; have c3 := (hC3).cell 3; have c4 := (hC3).cell 4; have c5 := (hC3).cell 5; have cf := (hC3).free
  simp only [List.getElem?_cons_zero, List.getElem?_cons_succ] at c0 c1 c2 c3 c4 c5
  clear hS
  go_wp2_with fail
  refine ((hitC ⟨⟨0, 0, 0⟩, ⟨2, 2, 2⟩⟩ ⟨-1, 1, 1⟩ ⟨1, 4, 1⟩ _).eq (v' := .bool false) (by rw [hit_ex2])).mono ?_
  rintro e w4 ⟨rfl, hS⟩
  have hW4 : Below w.heap.size w w4 := hW3.trans (hS.mono g2)
  clear hS
  go_wp2
  exact bodyPost_ret (v := .bool true) (by simp [results, Try.results11, go_sem]) rfl ⟨rfl, hW4⟩
end Go.Proofs.Ytegmfmonkaimcaa
