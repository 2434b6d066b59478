/- The document's own answers on bounds: their walks, first part. No condition. -/
import Derived.Test.YtegmfmonkaimcaaProg
import Derived.Test.YtegmfmonkaimcaaReg
import Derived.WalkKit
import Derived.WalkSpells
import Derived.WalkLawsBesides
import Derived.Test.YtegmfmonkaimcaaMem
import Derived.Test.YtegmfmonkaimcaaSpec
import Derived.Lib.Hide
namespace Go.Proofs.Ytegmfmonkaimcaa
set_option linter.unusedVariables false
set_option linter.unusedSimpArgs false
open Go.RowKit Go.NP
set_option maxHeartbeats 400000 in
theorem rmayC (n : Int) (w : World) : RetB Try.prog 45 #[.int .i64 n] w (.bool (decide (okN n))) := by
  unfold RetB
  by_cases h1 : -268435456 ≤ n
  · have e1 : decide (-268435456 ≤ n) = true := decide_eq_true h1
    have eq : decide (okN n) = decide (n ≤ 268435456) := by unfold okN; simp [h1]
    have EQ := Lib.hid eq
    clear eq h1
    go_enter Try.func45, Try.ntmps45
    go_wp2
    rw [EQ.out]
    exact bodyPost_ret (v := .bool (decide (n ≤ 268435456))) (by simp [results, Try.results45, go_sem]) rfl ⟨rfl, Below.refl _ _⟩
  · have e1 : decide (-268435456 ≤ n) = false := decide_eq_false h1
    have eq : decide (okN n) = false := by unfold okN; simp [h1]
    have EQ := Lib.hid eq
    clear eq h1
    go_enter Try.func45, Try.ntmps45
    go_wp2
    rw [EQ.out]
    exact bodyPost_ret (v := .bool false) (by simp [results, Try.results45, go_sem]) rfl ⟨rfl, Below.refl _ _⟩
theorem rmay_ok {n : Int} (h : okN n) (w : World) : RetB Try.prog 45 #[.int .i64 n] w (.bool true) := (rmayC n w).eq (by rw [decide_eq_true h])
theorem rmay_no {n : Int} (h : ¬ okN n) (w : World) : RetB Try.prog 45 #[.int .i64 n] w (.bool false) := (rmayC n w).eq (by rw [decide_eq_false h])
set_option maxHeartbeats 1000000 in
theorem rpt_ok (p : Pt) (w : World) (h : p.ok) : RetB Try.prog 33 #[.agg #[.int .i64 p.x, .int .i64 p.y, .int .i64 p.z]] w (.int .i64 0) := by
  obtain ⟨hx, hy, hz⟩ := h
  unfold RetB
  go_enter Try.func33, Try.ntmps33
  have hB : Box (w.alloc (.cells #[.int .i64 p.x, .int .i64 p.y, .int .i64 p.z] 24)) w.heap.size [.int .i64 p.x, .int .i64 p.y, .int .i64 p.z] 24 := Box.new rfl
  have c0 := (hB).cell 0; have c1 := (hB).cell 1; have c2 := (hB).cell 2; have cf := (hB).free
  simp only [List.getElem?_cons_zero, List.getElem?_cons_succ] at c0 c1 c2
  go_wp2_with fail
  refine (rmay_ok hx _).mono ?_
  rintro e w1 ⟨rfl, hS⟩
  have hB1 := hB.step hS
  have hW1 : Below w.heap.size w w1 := ((Below.refl _ _).alloc (Nat.le_refl _) _).trans (hS.mono (by simp))
  clear c0 c1 c2 cf
  clear hB hS
  have c0 := (hB1).cell 0; have c1 := (hB1).cell 1; have c2 := (hB1).cell 2; have cf := (hB1).free
  simp only [List.getElem?_cons_zero, List.getElem?_cons_succ] at c0 c1 c2
  go_wp2_with fail
  refine (rmay_ok hy _).mono ?_
  rintro e w2 ⟨rfl, hS⟩
  have hB2 := hB1.step hS
  have hW2 := hW1.trans (hS.mono hW1.size)
  clear c0 c1 c2 cf
  clear hB1 hS
  have c0 := (hB2).cell 0; have c1 := (hB2).cell 1; have c2 := (hB2).cell 2; have cf := (hB2).free
  simp only [List.getElem?_cons_zero, List.getElem?_cons_succ] at c0 c1 c2
  go_wp2_with fail
  refine (rmay_ok hz _).mono ?_
  rintro e w3 ⟨rfl, hS⟩
  have hW3 := hW2.trans (hS.mono hW2.size)
  go_wp2
  go_ret
  exact ⟨rfl, hW3⟩
set_option maxHeartbeats 1000000 in
theorem rpt_no (p : Pt) (w : World) (h : ¬ p.ok) : RetB Try.prog 33 #[.agg #[.int .i64 p.x, .int .i64 p.y, .int .i64 p.z]] w (.int .i64 7) := by
  unfold Pt.ok at h
  unfold RetB
  go_enter Try.func33, Try.ntmps33
  have hB : Box (w.alloc (.cells #[.int .i64 p.x, .int .i64 p.y, .int .i64 p.z] 24)) w.heap.size [.int .i64 p.x, .int .i64 p.y, .int .i64 p.z] 24 := Box.new rfl
  have c0 := (hB).cell 0; have c1 := (hB).cell 1; have c2 := (hB).cell 2; have cf := (hB).free
  simp only [List.getElem?_cons_zero, List.getElem?_cons_succ] at c0 c1 c2
  go_wp2_with fail
  by_cases hx : okN p.x
  · refine (rmay_ok hx _).mono ?_
    rintro e w1 ⟨rfl, hS⟩
    have hB1 := hB.step hS
    have hW1 : Below w.heap.size w w1 := ((Below.refl _ _).alloc (Nat.le_refl _) _).trans (hS.mono (by simp))
    clear c0 c1 c2 cf
    clear hB hS
    have c0 := (hB1).cell 0; have c1 := (hB1).cell 1; have c2 := (hB1).cell 2; have cf := (hB1).free
    simp only [List.getElem?_cons_zero, List.getElem?_cons_succ] at c0 c1 c2
    go_wp2_with fail
    by_cases hy : okN p.y
    · refine (rmay_ok hy _).mono ?_
      rintro e w2 ⟨rfl, hS⟩
      have hB2 := hB1.step hS
      have hW2 := hW1.trans (hS.mono hW1.size)
      clear c0 c1 c2 cf
      clear hB1 hS
      have c0 := (hB2).cell 0; have c1 := (hB2).cell 1; have c2 := (hB2).cell 2; have cf := (hB2).free
      simp only [List.getElem?_cons_zero, List.getElem?_cons_succ] at c0 c1 c2
      go_wp2_with fail
      refine (rmay_no (fun hz => h ⟨hx, hy, hz⟩) _).mono ?_
      rintro e w3 ⟨rfl, hS⟩
      have hW3 := hW2.trans (hS.mono hW2.size)
      go_wp2
      go_ret
      exact ⟨rfl, hW3⟩
    · refine (rmay_no hy _).mono ?_
      rintro e w2 ⟨rfl, hS⟩
      have hW2 := hW1.trans (hS.mono hW1.size)
      go_wp2
      go_ret
      exact ⟨rfl, hW2⟩
  · refine (rmay_no hx _).mono ?_
    rintro e w1 ⟨rfl, hS⟩
    have hW1 : Below w.heap.size w w1 := ((Below.refl _ _).alloc (Nat.le_refl _) _).trans (hS.mono (by simp))
    go_wp2
    go_ret
    exact ⟨rfl, hW1⟩
set_option maxHeartbeats 1000000 in
theorem rbd_ok (b : Bd) (w : World) (h : b.ok) : RetB Try.prog 15 #[.agg #[.int .i64 b.lo.x, .int .i64 b.lo.y, .int .i64 b.lo.z, .int .i64 b.hi.x, .int .i64 b.hi.y, .int .i64 b.hi.z]] w (.int .i64 0) := by
  obtain ⟨h1, h2, h3, h4, h5⟩ := h
  have e3 : decide (b.hi.x < b.lo.x) = false := decide_eq_false (by omega)
  have e4 : decide (b.hi.y < b.lo.y) = false := decide_eq_false (by omega)
  have e5 : decide (b.hi.z < b.lo.z) = false := decide_eq_false (by omega)
  clear h3 h4 h5
  unfold RetB
  go_enter Try.func15, Try.ntmps15
  have hB : Box (w.alloc (.cells #[.int .i64 b.lo.x, .int .i64 b.lo.y, .int .i64 b.lo.z, .int .i64 b.hi.x, .int .i64 b.hi.y, .int .i64 b.hi.z] 26)) w.heap.size [.int .i64 b.lo.x, .int .i64 b.lo.y, .int .i64 b.lo.z, .int .i64 b.hi.x, .int .i64 b.hi.y, .int .i64 b.hi.z] 26 := Box.new rfl
  have c0 := (hB).cell 0; have c1 := (hB).cell 1; have c2 := (hB).cell 2; have c3 := (hB).cell 3; have c4 := (hB).cell 4; have c5 := (hB).cell 5; have cf := (hB).free
  simp only [List.getElem?_cons_zero, List.getElem?_cons_succ] at c0 c1 c2 c3 c4 c5
  go_wp2_with fail
  refine (rpt_ok b.lo _ h1).mono ?_
  rintro e w1 ⟨rfl, hS⟩
  have hB1 := hB.step hS
  have hW1 : Below w.heap.size w w1 := ((Below.refl _ _).alloc (Nat.le_refl _) _).trans (hS.mono (by simp))
  clear c0 c1 c2 c3 c4 c5 cf
  clear hB hS
  have c0 := (hB1).cell 0; have c1 := (hB1).cell 1; have c2 := (hB1).cell 2; have c3 := (hB1).cell 3; have c4 := (hB1).cell 4; have c5 := (hB1).cell 5; have cf := (hB1).free
  simp only [List.getElem?_cons_zero, List.getElem?_cons_succ] at c0 c1 c2 c3 c4 c5
  go_wp2_with fail
  refine (rpt_ok b.hi _ h2).mono ?_
  rintro e w2 ⟨rfl, hS⟩
  have hB2 := hB1.step hS
  have hW2 := hW1.trans (hS.mono hW1.size)
  clear c0 c1 c2 c3 c4 c5 cf
  clear hB1 hS
  have c0 := (hB2).cell 0; have c1 := (hB2).cell 1; have c2 := (hB2).cell 2; have c3 := (hB2).cell 3; have c4 := (hB2).cell 4; have c5 := (hB2).cell 5; have cf := (hB2).free
  simp only [List.getElem?_cons_zero, List.getElem?_cons_succ] at c0 c1 c2 c3 c4 c5
  go_wp2
  go_ret
  exact ⟨rfl, hW2⟩
theorem nle_cases {b : Bd} (h : ¬ b.lo.le b.hi) : decide (b.hi.x < b.lo.x) = true ∨ (decide (b.hi.x < b.lo.x) = false ∧ decide (b.hi.y < b.lo.y) = true) ∨ (decide (b.hi.x < b.lo.x) = false ∧ decide (b.hi.y < b.lo.y) = false ∧ decide (b.hi.z < b.lo.z) = true) := by
  unfold Pt.le at h
  simp only [decide_eq_true_eq, decide_eq_false_iff_not]
  omega
set_option maxHeartbeats 2000000 in
theorem rbd_no (b : Bd) (w : World) (h : ¬ b.ok) : RetB Try.prog 15 #[.agg #[.int .i64 b.lo.x, .int .i64 b.lo.y, .int .i64 b.lo.z, .int .i64 b.hi.x, .int .i64 b.hi.y, .int .i64 b.hi.z]] w (.int .i64 7) := by
  unfold Bd.ok at h
  unfold RetB
  go_enter Try.func15, Try.ntmps15
  have hB : Box (w.alloc (.cells #[.int .i64 b.lo.x, .int .i64 b.lo.y, .int .i64 b.lo.z, .int .i64 b.hi.x, .int .i64 b.hi.y, .int .i64 b.hi.z] 26)) w.heap.size [.int .i64 b.lo.x, .int .i64 b.lo.y, .int .i64 b.lo.z, .int .i64 b.hi.x, .int .i64 b.hi.y, .int .i64 b.hi.z] 26 := Box.new rfl
  have c0 := (hB).cell 0; have c1 := (hB).cell 1; have c2 := (hB).cell 2; have c3 := (hB).cell 3; have c4 := (hB).cell 4; have c5 := (hB).cell 5; have cf := (hB).free
  simp only [List.getElem?_cons_zero, List.getElem?_cons_succ] at c0 c1 c2 c3 c4 c5
  go_wp2_with fail
  by_cases h1 : b.lo.ok
  · refine (rpt_ok b.lo _ h1).mono ?_
    rintro e w1 ⟨rfl, hS⟩
    have hB1 := hB.step hS
    have hW1 : Below w.heap.size w w1 := ((Below.refl _ _).alloc (Nat.le_refl _) _).trans (hS.mono (by simp))
    clear c0 c1 c2 c3 c4 c5 cf
    clear hB hS
    have c0 := (hB1).cell 0; have c1 := (hB1).cell 1; have c2 := (hB1).cell 2; have c3 := (hB1).cell 3; have c4 := (hB1).cell 4; have c5 := (hB1).cell 5; have cf := (hB1).free
    simp only [List.getElem?_cons_zero, List.getElem?_cons_succ] at c0 c1 c2 c3 c4 c5
    go_wp2_with fail
    by_cases h2 : b.hi.ok
    · refine (rpt_ok b.hi _ h2).mono ?_
      rintro e w2 ⟨rfl, hS⟩
      have hB2 := hB1.step hS
      have hW2 := hW1.trans (hS.mono hW1.size)
      clear c0 c1 c2 c3 c4 c5 cf
      clear hB1 hS
      have c0 := (hB2).cell 0; have c1 := (hB2).cell 1; have c2 := (hB2).cell 2; have c3 := (hB2).cell 3; have c4 := (hB2).cell 4; have c5 := (hB2).cell 5; have cf := (hB2).free
      simp only [List.getElem?_cons_zero, List.getElem?_cons_succ] at c0 c1 c2 c3 c4 c5
      rcases nle_cases (fun h3 => h ⟨h1, h2, h3⟩) with e1 | ⟨e1, e2⟩ | ⟨e1, e2, e3⟩
      all_goals
        go_wp2
        go_ret
        exact ⟨rfl, hW2⟩
    · refine (rpt_no b.hi _ h2).mono ?_
      rintro e w2 ⟨rfl, hS⟩
      have hW2 := hW1.trans (hS.mono hW1.size)
      go_wp2
      go_ret
      exact ⟨rfl, hW2⟩
  · refine (rpt_no b.lo _ h1).mono ?_
    rintro e w1 ⟨rfl, hS⟩
    have hW1 : Below w.heap.size w w1 := ((Below.refl _ _).alloc (Nat.le_refl _) _).trans (hS.mono (by simp))
    go_wp2
    go_ret
    exact ⟨rfl, hW1⟩
theorem rbdC (b : Bd) (w : World) : RetB Try.prog 15 #[.agg #[.int .i64 b.lo.x, .int .i64 b.lo.y, .int .i64 b.lo.z, .int .i64 b.hi.x, .int .i64 b.hi.y, .int .i64 b.hi.z]] w (.int .i64 (errIf b.ok)) := by
  by_cases h : b.ok
  · rw [errIf_pos h]; exact rbd_ok b w h
  · rw [errIf_neg h]; exact rbd_no b w h
end Go.Proofs.Ytegmfmonkaimcaa
