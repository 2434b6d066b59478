/- The document's own answers on bounds: their walks, first part. No condition. The document's own answers on bounds: their walks, second part: Join and Grow. No condition. The document's own answers on bounds: their walks, third part: Size, Holds, Meet. No condition. -/
import Derived.Test.YtbcjnckejkjfeaaGreatProg
import Derived.Test.YtbcjnckejkjfeaaGreatQab
import Derived.WalkKit
import Derived.WalkSpells
import Derived.WalkLawsBesides
import Derived.Test.YtbcjnckejkjfeaaGreatQac
import Derived.Test.YtbcjnckejkjfeaaGreatQaa
import Derived.Lib.Hide
namespace Go.Proofs.YtbcjnckejkjfeaaGreat
set_option linter.unusedVariables false
set_option linter.unusedSimpArgs false
open Go.RowKit Go.NP
set_option maxHeartbeats 400000 in
theorem rmayC (n : Int) (w : World) : RetB Tryz.prog 69 #[.int .i64 n] w (.bool (decide (okN n))) := by
  unfold RetB
  by_cases h1 : -268435456 ≤ n
  · have e1 : decide (-268435456 ≤ n) = true := decide_eq_true h1
    have eq : decide (okN n) = decide (n ≤ 268435456) := by unfold okN; simp [h1]
    have EQ := Lib.hid eq
    clear eq h1
    go_enter Tryz.func69, Tryz.ntmps69
    go_wp2
    rw [EQ.out]
    exact bodyPost_ret (v := .bool (decide (n ≤ 268435456))) (by simp [results, Tryz.results69, go_sem]) rfl ⟨rfl, Below.refl _ _⟩
  · have e1 : decide (-268435456 ≤ n) = false := decide_eq_false h1
    have eq : decide (okN n) = false := by unfold okN; simp [h1]
    have EQ := Lib.hid eq
    clear eq h1
    go_enter Tryz.func69, Tryz.ntmps69
    go_wp2
    rw [EQ.out]
    exact bodyPost_ret (v := .bool false) (by simp [results, Tryz.results69, go_sem]) rfl ⟨rfl, Below.refl _ _⟩
theorem rmay_ok {n : Int} (h : okN n) (w : World) : RetB Tryz.prog 69 #[.int .i64 n] w (.bool true) := (rmayC n w).eq (by rw [decide_eq_true h])
theorem rmay_no {n : Int} (h : ¬ okN n) (w : World) : RetB Tryz.prog 69 #[.int .i64 n] w (.bool false) := (rmayC n w).eq (by rw [decide_eq_false h])
set_option maxHeartbeats 1000000 in
theorem rpt_ok (p : Pt) (w : World) (h : p.ok) : RetB Tryz.prog 48 #[.agg #[.int .i64 p.x, .int .i64 p.y, .int .i64 p.z]] w (.int .i64 0) := by
  obtain ⟨hx, hy, hz⟩ := h
  unfold RetB
  go_enter Tryz.func48, Tryz.ntmps48
  have hB : Box (w.alloc (.cells #[.int .i64 p.x, .int .i64 p.y, .int .i64 p.z] 36)) w.heap.size [.int .i64 p.x, .int .i64 p.y, .int .i64 p.z] 36 := Box.new rfl
  have c0 := (hB).cell 0; have c1 := (hB).cell 1; have c2 := (hB).cell 2; have cf := (hB).free
  simp only [List.getElem?_cons_zero, List.getElem?_cons_succ] at c0 c1 c2
  go_wp2_with fail
  refine (rmay_ok hx _).mono ?_
  rintro e w1 ⟨rfl, hS⟩
  have hB1 := hB.step hS
  have hW1 : Below w.heap.size w w1 := ((Below.refl _ _).alloc (Nat.le_refl _) _).trans (hS.mono (by simp))
  clear c0 c1 c2 cf
  clear hB hS
  have c0 := (hB1).cell 0; have c1 := (hB1).cell 1; have c2 := (hB1).cell 2; have cf := (hB1).free
  simp only [List.getElem?_cons_zero, List.getElem?_cons_succ] at c0 c1 c2
  go_wp2_with fail
  refine (rmay_ok hy _).mono ?_
  rintro e w2 ⟨rfl, hS⟩
  have hB2 := hB1.step hS
  have hW2 := hW1.trans (hS.mono hW1.size)
  clear c0 c1 c2 cf
  clear hB1 hS
  have c0 := (hB2).cell 0; have c1 := (hB2).cell 1; have c2 := (hB2).cell 2; have cf := (hB2).free
  simp only [List.getElem?_cons_zero, List.getElem?_cons_succ] at c0 c1 c2
  go_wp2_with fail
  refine (rmay_ok hz _).mono ?_
  rintro e w3 ⟨rfl, hS⟩
  have hW3 := hW2.trans (hS.mono hW2.size)
  go_wp2
  go_ret
  exact ⟨rfl, hW3⟩
set_option maxHeartbeats 1000000 in
theorem rpt_no (p : Pt) (w : World) (h : ¬ p.ok) : RetB Tryz.prog 48 #[.agg #[.int .i64 p.x, .int .i64 p.y, .int .i64 p.z]] w (.int .i64 7) := by
  unfold Pt.ok at h
  unfold RetB
  go_enter Tryz.func48, Tryz.ntmps48
  have hB : Box (w.alloc (.cells #[.int .i64 p.x, .int .i64 p.y, .int .i64 p.z] 36)) w.heap.size [.int .i64 p.x, .int .i64 p.y, .int .i64 p.z] 36 := Box.new rfl
  have c0 := (hB).cell 0; have c1 := (hB).cell 1; have c2 := (hB).cell 2; have cf := (hB).free
  simp only [List.getElem?_cons_zero, List.getElem?_cons_succ] at c0 c1 c2
  go_wp2_with fail
  by_cases hx : okN p.x
  · refine (rmay_ok hx _).mono ?_
    rintro e w1 ⟨rfl, hS⟩
    have hB1 := hB.step hS
    have hW1 : Below w.heap.size w w1 := ((Below.refl _ _).alloc (Nat.le_refl _) _).trans (hS.mono (by simp))
    clear c0 c1 c2 cf
    clear hB hS
    have c0 := (hB1).cell 0; have c1 := (hB1).cell 1; have c2 := (hB1).cell 2; have cf := (hB1).free
    simp only [List.getElem?_cons_zero, List.getElem?_cons_succ] at c0 c1 c2
    go_wp2_with fail
    by_cases hy : okN p.y
    · refine (rmay_ok hy _).mono ?_
      rintro e w2 ⟨rfl, hS⟩
      have hB2 := hB1.step hS
      have hW2 := hW1.trans (hS.mono hW1.size)
      clear c0 c1 c2 cf
      clear hB1 hS
      have c0 := (hB2).cell 0; have c1 := (hB2).cell 1; have c2 := (hB2).cell 2; have cf := (hB2).free
      simp only [List.getElem?_cons_zero, List.getElem?_cons_succ] at c0 c1 c2
      go_wp2_with fail
      refine (rmay_no (fun hz => h ⟨hx, hy, hz⟩) _).mono ?_
      rintro e w3 ⟨rfl, hS⟩
      have hW3 := hW2.trans (hS.mono hW2.size)
      go_wp2
      go_ret
      exact ⟨rfl, hW3⟩
    · refine (rmay_no hy _).mono ?_
      rintro e w2 ⟨rfl, hS⟩
      have hW2 := hW1.trans (hS.mono hW1.size)
      go_wp2
      go_ret
      exact ⟨rfl, hW2⟩
  · refine (rmay_no hx _).mono ?_
    rintro e w1 ⟨rfl, hS⟩
    have hW1 : Below w.heap.size w w1 := ((Below.refl _ _).alloc (Nat.le_refl _) _).trans (hS.mono (by simp))
    go_wp2
    go_ret
    exact ⟨rfl, hW1⟩
set_option maxHeartbeats 1000000 in
theorem rbd_ok (b : Bd) (w : World) (h : b.ok) : RetB Tryz.prog 41 #[.agg #[.int .i64 b.lo.x, .int .i64 b.lo.y, .int .i64 b.lo.z, .int .i64 b.hi.x, .int .i64 b.hi.y, .int .i64 b.hi.z]] w (.int .i64 0) := by
  obtain ⟨h1, h2, h3, h4, h5⟩ := h
  have e3 : decide (b.hi.x < b.lo.x) = false := decide_eq_false (by omega)
  have e4 : decide (b.hi.y < b.lo.y) = false := decide_eq_false (by omega)
  have e5 : decide (b.hi.z < b.lo.z) = false := decide_eq_false (by omega)
  clear h3 h4 h5
  unfold RetB
  go_enter Tryz.func41, Tryz.ntmps41
  have hB : Box (w.alloc (.cells #[.int .i64 b.lo.x, .int .i64 b.lo.y, .int .i64 b.lo.z, .int .i64 b.hi.x, .int .i64 b.hi.y, .int .i64 b.hi.z] 38)) w.heap.size [.int .i64 b.lo.x, .int .i64 b.lo.y, .int .i64 b.lo.z, .int .i64 b.hi.x, .int .i64 b.hi.y, .int .i64 b.hi.z] 38 := Box.new rfl
  have c0 := (hB).cell 0; have c1 := (hB).cell 1; have c2 := (hB).cell 2; have c3 := (hB).cell 3; have c4 := (hB).cell 4; have c5 := (hB).cell 5; have cf := (hB).free
  simp only [List.getElem?_cons_zero, List.getElem?_cons_succ] at c0 c1 c2 c3 c4 c5
  go_wp2_with fail
  refine (rpt_ok b.lo _ h1).mono ?_
  rintro e w1 ⟨rfl, hS⟩
  have hB1 := hB.step hS
  have hW1 : Below w.heap.size w w1 := ((Below.refl _ _).alloc (Nat.le_refl _) _).trans (hS.mono (by simp))
  clear c0 c1 c2 c3 c4 c5 cf
  clear hB hS
  have c0 := (hB1).cell 0; have c1 := (hB1).cell 1; have c2 := (hB1).cell 2; have c3 := (hB1).cell 3; have c4 := (hB1).cell 4; have c5 := (hB1).cell 5; have cf := (hB1).free
  simp only [List.getElem?_cons_zero, List.getElem?_cons_succ] at c0 c1 c2 c3 c4 c5
  go_wp2_with fail
  refine (rpt_ok b.hi _ h2).mono ?_
  rintro e w2 ⟨rfl, hS⟩
  have hB2 := hB1.step hS
  have hW2 := hW1.trans (hS.mono hW1.size)
  clear c0 c1 c2 c3 c4 c5 cf
  clear hB1 hS
  have c0 := (hB2).cell 0; have c1 := (hB2).cell 1; have c2 := (hB2).cell 2; have c3 := (hB2).cell 3; have c4 := (hB2).cell 4; have c5 := (hB2).cell 5; have cf := (hB2).free
  simp only [List.getElem?_cons_zero, List.getElem?_cons_succ] at c0 c1 c2 c3 c4 c5
  go_wp2
  go_ret
  exact ⟨rfl, hW2⟩
theorem nle_cases {b : Bd} (h : ¬ b.lo.le b.hi) : decide (b.hi.x < b.lo.x) = true ∨ (decide (b.hi.x < b.lo.x) = false ∧ decide (b.hi.y < b.lo.y) = true) ∨ (decide (b.hi.x < b.lo.x) = false ∧ decide (b.hi.y < b.lo.y) = false ∧ decide (b.hi.z < b.lo.z) = true) := by
  unfold Pt.le at h
  simp only [decide_eq_true_eq, decide_eq_false_iff_not]
  omega
set_option maxHeartbeats 2000000 in
theorem rbd_no (b : Bd) (w : World) (h : ¬ b.ok) : RetB Tryz.prog 41 #[.agg #[.int .i64 b.lo.x, .int .i64 b.lo.y, .int .i64 b.lo.z, .int .i64 b.hi.x, .int .i64 b.hi.y, .int .i64 b.hi.z]] w (.int .i64 7) := by
  unfold Bd.ok at h
  unfold RetB
  go_enter Tryz.func41, Tryz.ntmps41
  have hB : Box (w.alloc (.cells #[.int .i64 b.lo.x, .int .i64 b.lo.y, .int .i64 b.lo.z, .int .i64 b.hi.x, .int .i64 b.hi.y, .int .i64 b.hi.z] 38)) w.heap.size [.int .i64 b.lo.x, .int .i64 b.lo.y, .int .i64 b.lo.z, .int .i64 b.hi.x, .int .i64 b.hi.y, .int .i64 b.hi.z] 38 := Box.new rfl
  have c0 := (hB).cell 0; have c1 := (hB).cell 1; have c2 := (hB).cell 2; have c3 := (hB).cell 3; have c4 := (hB).cell 4; have c5 := (hB).cell 5; have cf := (hB).free
  simp only [List.getElem?_cons_zero, List.getElem?_cons_succ] at c0 c1 c2 c3 c4 c5
  go_wp2_with fail
  by_cases h1 : b.lo.ok
  · refine (rpt_ok b.lo _ h1).mono ?_
    rintro e w1 ⟨rfl, hS⟩
    have hB1 := hB.step hS
    have hW1 : Below w.heap.size w w1 := ((Below.refl _ _).alloc (Nat.le_refl _) _).trans (hS.mono (by simp))
    clear c0 c1 c2 c3 c4 c5 cf
    clear hB hS
    have c0 := (hB1).cell 0; have c1 := (hB1).cell 1; have c2 := (hB1).cell 2; have c3 := (hB1).cell 3; have c4 := (hB1).cell 4; have c5 := (hB1).cell 5; have cf := (hB1).free
    simp only [List.getElem?_cons_zero, List.getElem?_cons_succ] at c0 c1 c2 c3 c4 c5
    go_wp2_with fail
    by_cases h2 : b.hi.ok
    · refine (rpt_ok b.hi _ h2).mono ?_
      rintro e w2 ⟨rfl, hS⟩
      have hB2 := hB1.step hS
      have hW2 := hW1.trans (hS.mono hW1.size)
      clear c0 c1 c2 c3 c4 c5 cf
      clear hB1 hS
      have c0 := (hB2).cell 0; have c1 := (hB2).cell 1; have c2 := (hB2).cell 2; have c3 := (hB2).cell 3; have c4 := (hB2).cell 4; have c5 := (hB2).cell 5; have cf := (hB2).free
      simp only [List.getElem?_cons_zero, List.getElem?_cons_succ] at c0 c1 c2 c3 c4 c5
      rcases nle_cases (fun h3 => h ⟨h1, h2, h3⟩) with e1 | ⟨e1, e2⟩ | ⟨e1, e2, e3⟩
      all_goals
        go_wp2
        go_ret
        exact ⟨rfl, hW2⟩
    · refine (rpt_no b.hi _ h2).mono ?_
      rintro e w2 ⟨rfl, hS⟩
      have hW2 := hW1.trans (hS.mono hW1.size)
      go_wp2
      go_ret
      exact ⟨rfl, hW2⟩
  · refine (rpt_no b.lo _ h1).mono ?_
    rintro e w1 ⟨rfl, hS⟩
    have hW1 : Below w.heap.size w w1 := ((Below.refl _ _).alloc (Nat.le_refl _) _).trans (hS.mono (by simp))
    go_wp2
    go_ret
    exact ⟨rfl, hW1⟩
theorem rbdC (b : Bd) (w : World) : RetB Tryz.prog 41 #[.agg #[.int .i64 b.lo.x, .int .i64 b.lo.y, .int .i64 b.lo.z, .int .i64 b.hi.x, .int .i64 b.hi.y, .int .i64 b.hi.z]] w (.int .i64 (errIf b.ok)) := by
  by_cases h : b.ok
  · rw [errIf_pos h]; exact rbd_ok b w h
  · rw [errIf_neg h]; exact rbd_no b w h
end Go.Proofs.YtbcjnckejkjfeaaGreat
namespace Go.Proofs.YtbcjnckejkjfeaaGreat
set_option linter.unusedVariables false
set_option linter.unusedSimpArgs false
open Go.RowKit Go.NP
theorem run_min2 {P : Program} {w : World} (ts : Array TypeId) (t : TypeId) (k k' : IntKind) (x y : Int) : (Builtin.min_ ts t #[.int k x, .int k' y]).run P w = .ok (.int k (min x y)) w := by
  have h : min x y = if y < x then y else x := by split <;> omega
  rw [h]; exact run_min_int2 w ts t k k' x y
theorem run_max2 {P : Program} {w : World} (ts : Array TypeId) (t : TypeId) (k k' : IntKind) (x y : Int) : (Builtin.max_ ts t #[.int k x, .int k' y]).run P w = .ok (.int k (max x y)) w := by
  have h : max x y = if x < y then y else x := by split <;> omega
  rw [h]; exact run_max_int2 w ts t k k' x y
attribute [-go_sem] run_min_int2 run_max_int2
attribute [local go_sem] run_min2 run_max2
set_option maxHeartbeats 2000000 in
theorem rgrow_no (a : Bd) (r : Int) (w : World) (ha : ¬ a.ok) : RetB Tryz.prog 43 #[.agg #[.int .i64 a.lo.x, .int .i64 a.lo.y, .int .i64 a.lo.z, .int .i64 a.hi.x, .int .i64 a.hi.y, .int .i64 a.hi.z], .int .i64 r] w (.agg #[.int .i64 bzero.lo.x, .int .i64 bzero.lo.y, .int .i64 bzero.lo.z, .int .i64 bzero.hi.x, .int .i64 bzero.hi.y, .int .i64 bzero.hi.z]) := by
  unfold RetB
  go_enter Tryz.func43, Tryz.ntmps43
  go_wp2_with fail
  refine (rbd_no a _ ha).mono ?_
  rintro e w1 ⟨rfl, hS⟩
  have hA1 : Box w1 w.heap.size [.int .i64 a.lo.x, .int .i64 a.lo.y, .int .i64 a.lo.z, .int .i64 a.hi.x, .int .i64 a.hi.y, .int .i64 a.hi.z] 38 := ((Box.new rfl).alloc _).step hS
  have hR1 : Box w1 (w.heap.size + 1) [.int .i64 0, .int .i64 0, .int .i64 0, .int .i64 0, .int .i64 0, .int .i64 0] 38 := (Box.new (by simp)).step hS
  have hW1 : Below w.heap.size w w1 := (((Below.refl _ _).alloc (Nat.le_refl _) _).alloc (by simp) _).trans (hS.mono (by simp; omega))
  clear hS
  have c0 := (hA1).cell 0; have c1 := (hA1).cell 1; have c2 := (hA1).cell 2; have c3 := (hA1).cell 3; have c4 := (hA1).cell 4; have c5 := (hA1).cell 5; have cf := (hA1).free
  simp only [List.getElem?_cons_zero, List.getElem?_cons_succ] at c0 c1 c2 c3 c4 c5
  have q0 := (hR1).cell 0; have q1 := (hR1).cell 1; have q2 := (hR1).cell 2; have q3 := (hR1).cell 3; have q4 := (hR1).cell 4; have q5 := (hR1).cell 5; have qf := (hR1).free
  simp only [List.getElem?_cons_zero, List.getElem?_cons_succ] at q0 q1 q2 q3 q4 q5
  have l0 := hR1.lt
  clear hA1 hR1
  go_wp2
  exact bodyPost_ret (v := .agg #[.int .i64 bzero.lo.x, .int .i64 bzero.lo.y, .int .i64 bzero.lo.z, .int .i64 bzero.hi.x, .int .i64 bzero.hi.y, .int .i64 bzero.hi.z]) (by simp [results, Tryz.results43, go_sem, *]; exact ⟨rfl, rfl, rfl, rfl, rfl, rfl⟩) rfl ⟨rfl, ((((((hW1).setCell (by first | omega | (simp; done) | (simp; omega)) _).setCell (by first | omega | (simp; done) | (simp; omega)) _).setCell (by first | omega | (simp; done) | (simp; omega)) _).setCell (by first | omega | (simp; done) | (simp; omega)) _).setCell (by first | omega | (simp; done) | (simp; omega)) _).setCell (by first | omega | (simp; done) | (simp; omega)) _⟩
set_option maxHeartbeats 2000000 in
theorem rgrow_same (a : Bd) (r : Int) (w : World) (ha : a.ok) (hr : decide (r < 0) = true ∨ (decide (r < 0) = false ∧ decide (268435456 < r) = true)) : RetB Tryz.prog 43 #[.agg #[.int .i64 a.lo.x, .int .i64 a.lo.y, .int .i64 a.lo.z, .int .i64 a.hi.x, .int .i64 a.hi.y, .int .i64 a.hi.z], .int .i64 r] w (.agg #[.int .i64 a.lo.x, .int .i64 a.lo.y, .int .i64 a.lo.z, .int .i64 a.hi.x, .int .i64 a.hi.y, .int .i64 a.hi.z]) := by
  rcases hr with e1 | ⟨e1, e2⟩
  all_goals
    unfold RetB
    go_enter Tryz.func43, Tryz.ntmps43
    go_wp2_with fail
    refine (rbd_ok a _ ha).mono ?_
    rintro e w1 ⟨rfl, hS⟩
    have hA1 : Box w1 w.heap.size [.int .i64 a.lo.x, .int .i64 a.lo.y, .int .i64 a.lo.z, .int .i64 a.hi.x, .int .i64 a.hi.y, .int .i64 a.hi.z] 38 := ((Box.new rfl).alloc _).step hS
    have hR1 : Box w1 (w.heap.size + 1) [.int .i64 0, .int .i64 0, .int .i64 0, .int .i64 0, .int .i64 0, .int .i64 0] 38 := (Box.new (by simp)).step hS
    have hW1 : Below w.heap.size w w1 := (((Below.refl _ _).alloc (Nat.le_refl _) _).alloc (by simp) _).trans (hS.mono (by simp; omega))
    clear hS
    have c0 := (hA1).cell 0; have c1 := (hA1).cell 1; have c2 := (hA1).cell 2; have c3 := (hA1).cell 3; have c4 := (hA1).cell 4; have c5 := (hA1).cell 5; have cf := (hA1).free
    simp only [List.getElem?_cons_zero, List.getElem?_cons_succ] at c0 c1 c2 c3 c4 c5
    have q0 := (hR1).cell 0; have q1 := (hR1).cell 1; have q2 := (hR1).cell 2; have q3 := (hR1).cell 3; have q4 := (hR1).cell 4; have q5 := (hR1).cell 5; have qf := (hR1).free
    simp only [List.getElem?_cons_zero, List.getElem?_cons_succ] at q0 q1 q2 q3 q4 q5
    have l0 := hR1.lt
    clear hA1 hR1
    go_wp2
    exact bodyPost_ret (v := .agg #[.int .i64 a.lo.x, .int .i64 a.lo.y, .int .i64 a.lo.z, .int .i64 a.hi.x, .int .i64 a.hi.y, .int .i64 a.hi.z]) (by simp [results, Tryz.results43, go_sem, *]) rfl ⟨rfl, ((((((hW1).setCell (by first | omega | (simp; done) | (simp; omega)) _).setCell (by first | omega | (simp; done) | (simp; omega)) _).setCell (by first | omega | (simp; done) | (simp; omega)) _).setCell (by first | omega | (simp; done) | (simp; omega)) _).setCell (by first | omega | (simp; done) | (simp; omega)) _).setCell (by first | omega | (simp; done) | (simp; omega)) _⟩
set_option maxHeartbeats 4000000 in
theorem rgrow_ok (a : Bd) (r : Int) (w : World) (ha : a.ok) (h0 : 0 ≤ r) (h1 : r ≤ 268435456) : RetB Tryz.prog 43 #[.agg #[.int .i64 a.lo.x, .int .i64 a.lo.y, .int .i64 a.lo.z, .int .i64 a.hi.x, .int .i64 a.hi.y, .int .i64 a.hi.z], .int .i64 r] w
    (.agg #[.int .i64 (⟨⟨down a.lo.x r, down a.lo.y r, down a.lo.z r⟩, ⟨up a.hi.x r, up a.hi.y r, up a.hi.z r⟩⟩ : Bd).lo.x, .int .i64 (⟨⟨down a.lo.x r, down a.lo.y r, down a.lo.z r⟩, ⟨up a.hi.x r, up a.hi.y r, up a.hi.z r⟩⟩ : Bd).lo.y, .int .i64 (⟨⟨down a.lo.x r, down a.lo.y r, down a.lo.z r⟩, ⟨up a.hi.x r, up a.hi.y r, up a.hi.z r⟩⟩ : Bd).lo.z, .int .i64 (⟨⟨down a.lo.x r, down a.lo.y r, down a.lo.z r⟩, ⟨up a.hi.x r, up a.hi.y r, up a.hi.z r⟩⟩ : Bd).hi.x, .int .i64 (⟨⟨down a.lo.x r, down a.lo.y r, down a.lo.z r⟩, ⟨up a.hi.x r, up a.hi.y r, up a.hi.z r⟩⟩ : Bd).hi.y, .int .i64 (⟨⟨down a.lo.x r, down a.lo.y r, down a.lo.z r⟩, ⟨up a.hi.x r, up a.hi.y r, up a.hi.z r⟩⟩ : Bd).hi.z]) := by
  have e1 : decide (r < 0) = false := decide_eq_false (by omega)
  have e2 : decide (268435456 < r) = false := decide_eq_false (by omega)
  obtain ⟨⟨a1, a2, a3⟩, ⟨a4, a5, a6⟩, _⟩ := id ha
  obtain ⟨a1, b1⟩ := a1; obtain ⟨a2, b2⟩ := a2; obtain ⟨a3, b3⟩ := a3; obtain ⟨a4, b4⟩ := a4; obtain ⟨a5, b5⟩ := a5; obtain ⟨a6, b6⟩ := a6
  unfold RetB
  go_enter Tryz.func43, Tryz.ntmps43
  go_wp2_with fail
  refine (rbd_ok a _ ha).mono ?_
  rintro e w1 ⟨rfl, hS⟩
  have hA1 : Box w1 w.heap.size [.int .i64 a.lo.x, .int .i64 a.lo.y, .int .i64 a.lo.z, .int .i64 a.hi.x, .int .i64 a.hi.y, .int .i64 a.hi.z] 38 := ((Box.new rfl).alloc _).step hS
  have hR1 : Box w1 (w.heap.size + 1) [.int .i64 0, .int .i64 0, .int .i64 0, .int .i64 0, .int .i64 0, .int .i64 0] 38 := (Box.new (by simp)).step hS
  have hW1 : Below w.heap.size w w1 := (((Below.refl _ _).alloc (Nat.le_refl _) _).alloc (by simp) _).trans (hS.mono (by simp; omega))
  clear hS
  have c0 := (hA1).cell 0; have c1 := (hA1).cell 1; have c2 := (hA1).cell 2; have c3 := (hA1).cell 3; have c4 := (hA1).cell 4; have c5 := (hA1).cell 5; have cf := (hA1).free
  simp only [List.getElem?_cons_zero, List.getElem?_cons_succ] at c0 c1 c2 c3 c4 c5
  have q0 := (hR1).cell 0; have q1 := (hR1).cell 1; have q2 := (hR1).cell 2; have q3 := (hR1).cell 3; have q4 := (hR1).cell 4; have q5 := (hR1).cell 5; have qf := (hR1).free
  simp only [List.getElem?_cons_zero, List.getElem?_cons_succ] at q0 q1 q2 q3 q4 q5
  have l0 := hR1.lt
  clear hA1 hR1
  go_wp2
  exact bodyPost_ret (v := .agg #[.int .i64 (⟨⟨down a.lo.x r, down a.lo.y r, down a.lo.z r⟩, ⟨up a.hi.x r, up a.hi.y r, up a.hi.z r⟩⟩ : Bd).lo.x, .int .i64 (⟨⟨down a.lo.x r, down a.lo.y r, down a.lo.z r⟩, ⟨up a.hi.x r, up a.hi.y r, up a.hi.z r⟩⟩ : Bd).lo.y, .int .i64 (⟨⟨down a.lo.x r, down a.lo.y r, down a.lo.z r⟩, ⟨up a.hi.x r, up a.hi.y r, up a.hi.z r⟩⟩ : Bd).lo.z, .int .i64 (⟨⟨down a.lo.x r, down a.lo.y r, down a.lo.z r⟩, ⟨up a.hi.x r, up a.hi.y r, up a.hi.z r⟩⟩ : Bd).hi.x, .int .i64 (⟨⟨down a.lo.x r, down a.lo.y r, down a.lo.z r⟩, ⟨up a.hi.x r, up a.hi.y r, up a.hi.z r⟩⟩ : Bd).hi.y, .int .i64 (⟨⟨down a.lo.x r, down a.lo.y r, down a.lo.z r⟩, ⟨up a.hi.x r, up a.hi.y r, up a.hi.z r⟩⟩ : Bd).hi.z]) (by simp [results, Tryz.results43, go_sem, *]; exact ⟨rfl, rfl, rfl, rfl, rfl, rfl⟩) rfl ⟨rfl, ((((((((((((hW1).setCell (by first | omega | (simp; done) | (simp; omega)) _).setCell (by first | omega | (simp; done) | (simp; omega)) _).setCell (by first | omega | (simp; done) | (simp; omega)) _).setCell (by first | omega | (simp; done) | (simp; omega)) _).setCell (by first | omega | (simp; done) | (simp; omega)) _).setCell (by first | omega | (simp; done) | (simp; omega)) _).setCell (by first | omega | (simp; done) | (simp; omega)) _).setCell (by first | omega | (simp; done) | (simp; omega)) _).setCell (by first | omega | (simp; done) | (simp; omega)) _).setCell (by first | omega | (simp; done) | (simp; omega)) _).setCell (by first | omega | (simp; done) | (simp; omega)) _).setCell (by first | omega | (simp; done) | (simp; omega)) _⟩
theorem down0 {n : Int} (h : okN n) : down n 0 = n := by obtain ⟨h1, h2⟩ := h; unfold down; omega
theorem up0 {n : Int} (h : okN n) : up n 0 = n := by obtain ⟨h1, h2⟩ := h; unfold up; omega
theorem grow_bad {a : Bd} {r : Int} (ha : a.ok) (hr : ¬ (0 ≤ r ∧ r ≤ 268435456)) : grow a r = a := by
  obtain ⟨⟨a1, a2, a3⟩, ⟨a4, a5, a6⟩, h⟩ := id ha
  unfold grow
  rw [if_pos ha, show rOk r = 0 from if_neg hr, down0 a1, down0 a2, down0 a3, up0 a4, up0 a5, up0 a6]
theorem rgrowC (a : Bd) (r : Int) (w : World) : RetB Tryz.prog 43 #[.agg #[.int .i64 a.lo.x, .int .i64 a.lo.y, .int .i64 a.lo.z, .int .i64 a.hi.x, .int .i64 a.hi.y, .int .i64 a.hi.z], .int .i64 r] w (.agg #[.int .i64 (grow a r).lo.x, .int .i64 (grow a r).lo.y, .int .i64 (grow a r).lo.z, .int .i64 (grow a r).hi.x, .int .i64 (grow a r).hi.y, .int .i64 (grow a r).hi.z]) := by
  by_cases ha : a.ok
  · by_cases hr : 0 ≤ r ∧ r ≤ 268435456
    · have e : grow a r = ⟨⟨down a.lo.x r, down a.lo.y r, down a.lo.z r⟩, ⟨up a.hi.x r, up a.hi.y r, up a.hi.z r⟩⟩ := by
        unfold grow; rw [if_pos ha, show rOk r = r from if_pos hr]
      rw [e]; exact rgrow_ok a r w ha hr.1 hr.2
    · rw [grow_bad ha hr]
      refine rgrow_same a r w ha ?_
      by_cases h0 : r < 0
      · exact .inl (decide_eq_true h0)
      · exact .inr ⟨decide_eq_false h0, decide_eq_true (by omega)⟩
  · rw [show grow a r = bzero from if_neg ha]; exact rgrow_no a r w ha
end Go.Proofs.YtbcjnckejkjfeaaGreat
namespace Go.Proofs.YtbcjnckejkjfeaaGreat
set_option linter.unusedVariables false
set_option linter.unusedSimpArgs false
open Go.RowKit Go.NP
def inS (b : Bd) (p : Pt) : Bool := decide (b.lo.x ≤ p.x) && decide (p.x ≤ b.hi.x) && decide (b.lo.y ≤ p.y) && decide (p.y ≤ b.hi.y) && decide (b.lo.z ≤ p.z) && decide (p.z ≤ b.hi.z)
set_option maxHeartbeats 1000000 in
theorem rinC (b : Bd) (p : Pt) (w : World) : RetB Tryz.prog 66 #[.agg #[.int .i64 b.lo.x, .int .i64 b.lo.y, .int .i64 b.lo.z, .int .i64 b.hi.x, .int .i64 b.hi.y, .int .i64 b.hi.z], .agg #[.int .i64 p.x, .int .i64 p.y, .int .i64 p.z]] w (.bool (inS b p)) := by
  unfold RetB
  have hW : Below w.heap.size w ((w.alloc (.cells #[.int .i64 b.lo.x, .int .i64 b.lo.y, .int .i64 b.lo.z, .int .i64 b.hi.x, .int .i64 b.hi.y, .int .i64 b.hi.z] 38)).alloc (.cells #[.int .i64 p.x, .int .i64 p.y, .int .i64 p.z] 36)) := ((Below.refl _ _).alloc (Nat.le_refl _) _).alloc (by simp) _
  cases c1 : decide (b.lo.x ≤ p.x)
  · have hv := Lib.hid (show inS b p = false from by unfold inS; rw [c1]; simp)
    go_enter Tryz.func66, Tryz.ntmps66
    go_wp2
    rw [hv.out]
    exact bodyPost_ret (v := .bool false) (by simp [results, Tryz.results66, go_sem]) rfl ⟨rfl, hW⟩
  · skip
    cases c2 : decide (p.x ≤ b.hi.x)
    · have hv := Lib.hid (show inS b p = false from by unfold inS; rw [c1, c2]; simp)
      go_enter Tryz.func66, Tryz.ntmps66
      go_wp2
      rw [hv.out]
      exact bodyPost_ret (v := .bool false) (by simp [results, Tryz.results66, go_sem]) rfl ⟨rfl, hW⟩
    · skip
      cases c3 : decide (b.lo.y ≤ p.y)
      · have hv := Lib.hid (show inS b p = false from by unfold inS; rw [c1, c2, c3]; simp)
        go_enter Tryz.func66, Tryz.ntmps66
        go_wp2
        rw [hv.out]
        exact bodyPost_ret (v := .bool false) (by simp [results, Tryz.results66, go_sem]) rfl ⟨rfl, hW⟩
      · skip
        cases c4 : decide (p.y ≤ b.hi.y)
        · have hv := Lib.hid (show inS b p = false from by unfold inS; rw [c1, c2, c3, c4]; simp)
          go_enter Tryz.func66, Tryz.ntmps66
          go_wp2
          rw [hv.out]
          exact bodyPost_ret (v := .bool false) (by simp [results, Tryz.results66, go_sem]) rfl ⟨rfl, hW⟩
        · skip
          cases c5 : decide (b.lo.z ≤ p.z)
          · have hv := Lib.hid (show inS b p = false from by unfold inS; rw [c1, c2, c3, c4, c5]; simp)
            go_enter Tryz.func66, Tryz.ntmps66
            go_wp2
            rw [hv.out]
            exact bodyPost_ret (v := .bool false) (by simp [results, Tryz.results66, go_sem]) rfl ⟨rfl, hW⟩
          · have hv := Lib.hid (show inS b p = decide (p.z ≤ b.hi.z) from by unfold inS; rw [c1, c2, c3, c4, c5]; simp)
            go_enter Tryz.func66, Tryz.ntmps66
            go_wp2
            rw [hv.out]
            exact bodyPost_ret (v := .bool (decide (p.z ≤ b.hi.z))) (by simp [results, Tryz.results66, go_sem]) rfl ⟨rfl, hW⟩
set_option maxHeartbeats 400000 in
theorem rapartC (a b c d : Int) (w : World) : RetB Tryz.prog 52 #[.int .i64 a, .int .i64 b, .int .i64 c, .int .i64 d] w (.bool (decide (b < c) || decide (d < a))) := by
  unfold RetB
  cases c1 : decide (b < c)
  · go_enter Tryz.func52, Tryz.ntmps52
    go_wp2
    exact bodyPost_ret (v := .bool (decide (d < a))) (by simp [results, Tryz.results52, go_sem]) rfl ⟨by simp, Below.refl _ _⟩
  · go_enter Tryz.func52, Tryz.ntmps52
    go_wp2
    exact bodyPost_ret (v := .bool true) (by simp [results, Tryz.results52, go_sem]) rfl ⟨by simp, Below.refl _ _⟩
theorem inS_iff {b : Bd} {p : Pt} : inS b p = true ↔ b.lo.le p ∧ p.le b.hi := by
  unfold inS Pt.le
  simp
  omega
theorem holds_in {a b : Bd} (ha : a.ok) (hb : b.ok) : holds a b = (inS a b.lo && inS a b.hi) := by
  obtain ⟨_, _, h⟩ := id hb
  unfold Pt.le at h
  rw [Bool.eq_iff_iff, Bool.and_eq_true, inS_iff, inS_iff]
  unfold holds
  rw [decide_eq_true_iff]
  unfold Pt.le
  constructor
  · rintro ⟨_, _, h1, h2⟩
    omega
  · intro h1
    exact ⟨ha, hb, by omega, by omega⟩
set_option maxHeartbeats 2000000 in
theorem rholdsC (a b : Bd) (w : World) : RetB Tryz.prog 44 #[.agg #[.int .i64 a.lo.x, .int .i64 a.lo.y, .int .i64 a.lo.z, .int .i64 a.hi.x, .int .i64 a.hi.y, .int .i64 a.hi.z], .agg #[.int .i64 b.lo.x, .int .i64 b.lo.y, .int .i64 b.lo.z, .int .i64 b.hi.x, .int .i64 b.hi.y, .int .i64 b.hi.z]] w (.bool (holds a b)) := by
  unfold RetB
  by_cases ha : a.ok
  · by_cases hb : b.ok
    · have hv := Lib.hid (holds_in ha hb)
      go_enter Tryz.func44, Tryz.ntmps44
      go_wp2_with fail
      refine (rbd_ok a _ ha).mono ?_
      rintro e w1 ⟨rfl, hS⟩
      have hA : Box w1 w.heap.size [.int .i64 a.lo.x, .int .i64 a.lo.y, .int .i64 a.lo.z, .int .i64 a.hi.x, .int .i64 a.hi.y, .int .i64 a.hi.z] 38 := ((Box.new rfl).alloc _).step hS
      have hB : Box w1 (w.heap.size + 1) [.int .i64 b.lo.x, .int .i64 b.lo.y, .int .i64 b.lo.z, .int .i64 b.hi.x, .int .i64 b.hi.y, .int .i64 b.hi.z] 38 := (Box.new (by simp)).step hS
      have hW : Below w.heap.size w w1 := (((Below.refl _ _).alloc (Nat.le_refl _) _).alloc (by simp) _).trans (hS.mono (by simp; omega))
      clear hS
      have y0 := (hB).cell 0; have y1 := (hB).cell 1; have y2 := (hB).cell 2; have y3 := (hB).cell 3; have y4 := (hB).cell 4; have y5 := (hB).cell 5; have yf := (hB).free
      simp only [List.getElem?_cons_zero, List.getElem?_cons_succ] at y0 y1 y2 y3 y4 y5
      go_wp2_with fail
      refine (rbd_ok b _ hb).mono ?_
      rintro e w2 ⟨rfl, hS⟩
      have hA2 := hA.step hS; have hB2 := hB.step hS
      have hW2 := hW.trans (hS.mono hW.size)
      clear y0 y1 y2 y3 y4 y5 yf
      clear hS hA hB hW
      have x0 := (hA2).cell 0; have x1 := (hA2).cell 1; have x2 := (hA2).cell 2; have x3 := (hA2).cell 3; have x4 := (hA2).cell 4; have x5 := (hA2).cell 5; have xf := (hA2).free
      simp only [List.getElem?_cons_zero, List.getElem?_cons_succ] at x0 x1 x2 x3 x4 x5
      have y0 := (hB2).cell 0; have y1 := (hB2).cell 1; have y2 := (hB2).cell 2; have y3 := (hB2).cell 3; have y4 := (hB2).cell 4; have y5 := (hB2).cell 5; have yf := (hB2).free
      simp only [List.getElem?_cons_zero, List.getElem?_cons_succ] at y0 y1 y2 y3 y4 y5
      go_wp2_with fail
      cases c1 : inS a b.lo
      · refine ((rinC a b.lo _).eq (v' := .bool false) (by rw [c1])).mono ?_
        rintro e w3 ⟨rfl, hS⟩
        have hW3 := hW2.trans (hS.mono hW2.size)
        go_wp2
        rw [hv.out, c1]
        exact bodyPost_ret (v := .bool false) (by simp [results, Tryz.results44, go_sem]) rfl ⟨rfl, hW3⟩
      · refine ((rinC a b.lo _).eq (v' := .bool true) (by rw [c1])).mono ?_
        rintro e w3 ⟨rfl, hS⟩
        have hA3 := hA2.step hS; have hB3 := hB2.step hS
        have hW3 := hW2.trans (hS.mono hW2.size)
        clear x0 x1 x2 x3 x4 x5 xf
        clear y0 y1 y2 y3 y4 y5 yf
        clear hS hA2 hB2 hW2
        have x0 := (hA3).cell 0; have x1 := (hA3).cell 1; have x2 := (hA3).cell 2; have x3 := (hA3).cell 3; have x4 := (hA3).cell 4; have x5 := (hA3).cell 5; have xf := (hA3).free
        simp only [List.getElem?_cons_zero, List.getElem?_cons_succ] at x0 x1 x2 x3 x4 x5
        have y0 := (hB3).cell 0; have y1 := (hB3).cell 1; have y2 := (hB3).cell 2; have y3 := (hB3).cell 3; have y4 := (hB3).cell 4; have y5 := (hB3).cell 5; have yf := (hB3).free
        simp only [List.getElem?_cons_zero, List.getElem?_cons_succ] at y0 y1 y2 y3 y4 y5
        go_wp2_with fail
        refine (rinC a b.hi _).mono ?_
        rintro e w4 ⟨rfl, hS⟩
        have hW4 := hW3.trans (hS.mono hW3.size)
        go_wp2
        rw [hv.out, c1]
        exact bodyPost_ret (v := .bool (inS a b.hi)) (by simp [results, Tryz.results44, go_sem]) rfl ⟨rfl, hW4⟩
    · have hv := Lib.hid (show holds a b = false from decide_eq_false fun h => hb h.2.1)
      go_enter Tryz.func44, Tryz.ntmps44
      go_wp2_with fail
      refine (rbd_ok a _ ha).mono ?_
      rintro e w1 ⟨rfl, hS⟩
      have hA : Box w1 w.heap.size [.int .i64 a.lo.x, .int .i64 a.lo.y, .int .i64 a.lo.z, .int .i64 a.hi.x, .int .i64 a.hi.y, .int .i64 a.hi.z] 38 := ((Box.new rfl).alloc _).step hS
      have hB : Box w1 (w.heap.size + 1) [.int .i64 b.lo.x, .int .i64 b.lo.y, .int .i64 b.lo.z, .int .i64 b.hi.x, .int .i64 b.hi.y, .int .i64 b.hi.z] 38 := (Box.new (by simp)).step hS
      have hW : Below w.heap.size w w1 := (((Below.refl _ _).alloc (Nat.le_refl _) _).alloc (by simp) _).trans (hS.mono (by simp; omega))
      clear hS
      have y0 := (hB).cell 0; have y1 := (hB).cell 1; have y2 := (hB).cell 2; have y3 := (hB).cell 3; have y4 := (hB).cell 4; have y5 := (hB).cell 5; have yf := (hB).free
      simp only [List.getElem?_cons_zero, List.getElem?_cons_succ] at y0 y1 y2 y3 y4 y5
      go_wp2_with fail
      refine (rbd_no b _ hb).mono ?_
      rintro e w2 ⟨rfl, hS⟩
      have hW2 := hW.trans (hS.mono hW.size)
      go_wp2
      rw [hv.out]
      exact bodyPost_ret (v := .bool false) (by simp [results, Tryz.results44, go_sem]) rfl ⟨rfl, hW2⟩
  · have hv := Lib.hid (show holds a b = false from decide_eq_false fun h => ha h.1)
    go_enter Tryz.func44, Tryz.ntmps44
    go_wp2_with fail
    refine (rbd_no a _ ha).mono ?_
    rintro e w1 ⟨rfl, hS⟩
    have hA : Box w1 w.heap.size [.int .i64 a.lo.x, .int .i64 a.lo.y, .int .i64 a.lo.z, .int .i64 a.hi.x, .int .i64 a.hi.y, .int .i64 a.hi.z] 38 := ((Box.new rfl).alloc _).step hS
    have hB : Box w1 (w.heap.size + 1) [.int .i64 b.lo.x, .int .i64 b.lo.y, .int .i64 b.lo.z, .int .i64 b.hi.x, .int .i64 b.hi.y, .int .i64 b.hi.z] 38 := (Box.new (by simp)).step hS
    have hW : Below w.heap.size w w1 := (((Below.refl _ _).alloc (Nat.le_refl _) _).alloc (by simp) _).trans (hS.mono (by simp; omega))
    clear hS
    go_wp2
    rw [hv.out]
    exact bodyPost_ret (v := .bool false) (by simp [results, Tryz.results44, go_sem]) rfl ⟨rfl, hW⟩
def apS (a b c d : Int) : Bool := decide (b < c) || decide (d < a)
theorem apS_no {a b c d : Int} : apS a b c d = false ↔ c ≤ b ∧ a ≤ d := by unfold apS; simp
theorem meet_ap {a b : Bd} (ha : a.ok) (hb : b.ok) : meet a b = (!apS a.lo.x a.hi.x b.lo.x b.hi.x && !apS a.lo.y a.hi.y b.lo.y b.hi.y && !apS a.lo.z a.hi.z b.lo.z b.hi.z) := by
  obtain ⟨_, _, h1⟩ := id ha
  obtain ⟨_, _, h2⟩ := id hb
  unfold Pt.le at h1 h2
  rw [Bool.eq_iff_iff, Bool.and_eq_true, Bool.and_eq_true, Bool.not_eq_true', Bool.not_eq_true', Bool.not_eq_true', apS_no, apS_no, apS_no]
  unfold meet
  rw [decide_eq_true_iff]
  unfold Pt.le pmax pmin
  simp only
  constructor
  · rintro ⟨_, _, h3⟩
    omega
  · intro h3
    exact ⟨ha, hb, by omega, by omega, by omega⟩
set_option maxHeartbeats 2000000 in
theorem rmeetC (a b : Bd) (w : World) : RetB Tryz.prog 31 #[.agg #[.int .i64 a.lo.x, .int .i64 a.lo.y, .int .i64 a.lo.z, .int .i64 a.hi.x, .int .i64 a.hi.y, .int .i64 a.hi.z], .agg #[.int .i64 b.lo.x, .int .i64 b.lo.y, .int .i64 b.lo.z, .int .i64 b.hi.x, .int .i64 b.hi.y, .int .i64 b.hi.z]] w (.bool (meet a b)) := by
  unfold RetB
  by_cases ha : a.ok
  · by_cases hb : b.ok
    · have hv := Lib.hid (meet_ap ha hb)
      go_enter Tryz.func31, Tryz.ntmps31
      go_wp2_with fail
      refine (rbd_ok a _ ha).mono ?_
      rintro e w1 ⟨rfl, hS⟩
      have hA : Box w1 w.heap.size [.int .i64 a.lo.x, .int .i64 a.lo.y, .int .i64 a.lo.z, .int .i64 a.hi.x, .int .i64 a.hi.y, .int .i64 a.hi.z] 38 := ((Box.new rfl).alloc _).step hS
      have hB : Box w1 (w.heap.size + 1) [.int .i64 b.lo.x, .int .i64 b.lo.y, .int .i64 b.lo.z, .int .i64 b.hi.x, .int .i64 b.hi.y, .int .i64 b.hi.z] 38 := (Box.new (by simp)).step hS
      have hW : Below w.heap.size w w1 := (((Below.refl _ _).alloc (Nat.le_refl _) _).alloc (by simp) _).trans (hS.mono (by simp; omega))
      clear hS
      have y0 := (hB).cell 0; have y1 := (hB).cell 1; have y2 := (hB).cell 2; have y3 := (hB).cell 3; have y4 := (hB).cell 4; have y5 := (hB).cell 5; have yf := (hB).free
      simp only [List.getElem?_cons_zero, List.getElem?_cons_succ] at y0 y1 y2 y3 y4 y5
      go_wp2_with fail
      refine (rbd_ok b _ hb).mono ?_
      rintro e w2 ⟨rfl, hS⟩
      have hA2 := hA.step hS; have hB2 := hB.step hS
      have hW2 := hW.trans (hS.mono hW.size)
      clear y0 y1 y2 y3 y4 y5 yf
      clear hS hA hB hW
      have x0 := (hA2).cell 0; have x1 := (hA2).cell 1; have x2 := (hA2).cell 2; have x3 := (hA2).cell 3; have x4 := (hA2).cell 4; have x5 := (hA2).cell 5; have xf := (hA2).free
      simp only [List.getElem?_cons_zero, List.getElem?_cons_succ] at x0 x1 x2 x3 x4 x5
      have y0 := (hB2).cell 0; have y1 := (hB2).cell 1; have y2 := (hB2).cell 2; have y3 := (hB2).cell 3; have y4 := (hB2).cell 4; have y5 := (hB2).cell 5; have yf := (hB2).free
      simp only [List.getElem?_cons_zero, List.getElem?_cons_succ] at y0 y1 y2 y3 y4 y5
      go_wp2_with fail
      cases c1 : apS a.lo.x a.hi.x b.lo.x b.hi.x
      rotate_left
      · refine ((rapartC a.lo.x a.hi.x b.lo.x b.hi.x _).eq (v' := .bool true) (by rw [← c1]; rfl)).mono ?_
        rintro e w3 ⟨rfl, hS⟩
        have hW3 := hW2.trans (hS.mono hW2.size)
        go_wp2
        rw [hv.out, c1]
        exact bodyPost_ret (v := .bool false) (by simp [results, Tryz.results31, go_sem]) rfl ⟨by simp, hW3⟩
      · refine ((rapartC a.lo.x a.hi.x b.lo.x b.hi.x _).eq (v' := .bool false) (by rw [← c1]; rfl)).mono ?_
        rintro e w3 ⟨rfl, hS⟩
        have hA3 := hA2.step hS; have hB3 := hB2.step hS
        have hW3 := hW2.trans (hS.mono hW2.size)
        clear x0 x1 x2 x3 x4 x5 xf
        clear y0 y1 y2 y3 y4 y5 yf
        clear hS hA2 hB2 hW2
        have x0 := (hA3).cell 0; have x1 := (hA3).cell 1; have x2 := (hA3).cell 2; have x3 := (hA3).cell 3; have x4 := (hA3).cell 4; have x5 := (hA3).cell 5; have xf := (hA3).free
        simp only [List.getElem?_cons_zero, List.getElem?_cons_succ] at x0 x1 x2 x3 x4 x5
        have y0 := (hB3).cell 0; have y1 := (hB3).cell 1; have y2 := (hB3).cell 2; have y3 := (hB3).cell 3; have y4 := (hB3).cell 4; have y5 := (hB3).cell 5; have yf := (hB3).free
        simp only [List.getElem?_cons_zero, List.getElem?_cons_succ] at y0 y1 y2 y3 y4 y5
        go_wp2_with fail
        cases c2 : apS a.lo.y a.hi.y b.lo.y b.hi.y
        rotate_left
        · refine ((rapartC a.lo.y a.hi.y b.lo.y b.hi.y _).eq (v' := .bool true) (by rw [← c2]; rfl)).mono ?_
          rintro e w4 ⟨rfl, hS⟩
          have hW4 := hW3.trans (hS.mono hW3.size)
          go_wp2
          rw [hv.out, c1, c2]
          exact bodyPost_ret (v := .bool false) (by simp [results, Tryz.results31, go_sem]) rfl ⟨by simp, hW4⟩
        · refine ((rapartC a.lo.y a.hi.y b.lo.y b.hi.y _).eq (v' := .bool false) (by rw [← c2]; rfl)).mono ?_
          rintro e w4 ⟨rfl, hS⟩
          have hA4 := hA3.step hS; have hB4 := hB3.step hS
          have hW4 := hW3.trans (hS.mono hW3.size)
          clear x0 x1 x2 x3 x4 x5 xf
          clear y0 y1 y2 y3 y4 y5 yf
          clear hS hA3 hB3 hW3
          have x0 := (hA4).cell 0; have x1 := (hA4).cell 1; have x2 := (hA4).cell 2; have x3 := (hA4).cell 3; have x4 := (hA4).cell 4; have x5 := (hA4).cell 5; have xf := (hA4).free
          simp only [List.getElem?_cons_zero, List.getElem?_cons_succ] at x0 x1 x2 x3 x4 x5
          have y0 := (hB4).cell 0; have y1 := (hB4).cell 1; have y2 := (hB4).cell 2; have y3 := (hB4).cell 3; have y4 := (hB4).cell 4; have y5 := (hB4).cell 5; have yf := (hB4).free
          simp only [List.getElem?_cons_zero, List.getElem?_cons_succ] at y0 y1 y2 y3 y4 y5
          go_wp2_with fail
          refine ((rapartC a.lo.z a.hi.z b.lo.z b.hi.z _).eq (v' := .bool (apS a.lo.z a.hi.z b.lo.z b.hi.z)) rfl).mono ?_
          rintro e w5 ⟨rfl, hS⟩
          have hW5 := hW4.trans (hS.mono hW4.size)
          go_wp2
          rw [hv.out, c1, c2]
          exact bodyPost_ret (v := .bool (!apS a.lo.z a.hi.z b.lo.z b.hi.z)) (by simp [results, Tryz.results31, go_sem]) rfl ⟨by simp, hW5⟩
    · have hv := Lib.hid (show meet a b = false from decide_eq_false fun h => hb h.2.1)
      go_enter Tryz.func31, Tryz.ntmps31
      go_wp2_with fail
      refine (rbd_ok a _ ha).mono ?_
      rintro e w1 ⟨rfl, hS⟩
      have hA : Box w1 w.heap.size [.int .i64 a.lo.x, .int .i64 a.lo.y, .int .i64 a.lo.z, .int .i64 a.hi.x, .int .i64 a.hi.y, .int .i64 a.hi.z] 38 := ((Box.new rfl).alloc _).step hS
      have hB : Box w1 (w.heap.size + 1) [.int .i64 b.lo.x, .int .i64 b.lo.y, .int .i64 b.lo.z, .int .i64 b.hi.x, .int .i64 b.hi.y, .int .i64 b.hi.z] 38 := (Box.new (by simp)).step hS
      have hW : Below w.heap.size w w1 := (((Below.refl _ _).alloc (Nat.le_refl _) _).alloc (by simp) _).trans (hS.mono (by simp; omega))
      clear hS
      have y0 := (hB).cell 0; have y1 := (hB).cell 1; have y2 := (hB).cell 2; have y3 := (hB).cell 3; have y4 := (hB).cell 4; have y5 := (hB).cell 5; have yf := (hB).free
      simp only [List.getElem?_cons_zero, List.getElem?_cons_succ] at y0 y1 y2 y3 y4 y5
      go_wp2_with fail
      refine (rbd_no b _ hb).mono ?_
      rintro e w2 ⟨rfl, hS⟩
      have hW2 := hW.trans (hS.mono hW.size)
      go_wp2
      rw [hv.out]
      exact bodyPost_ret (v := .bool false) (by simp [results, Tryz.results31, go_sem]) rfl ⟨rfl, hW2⟩
  · have hv := Lib.hid (show meet a b = false from decide_eq_false fun h => ha h.1)
    go_enter Tryz.func31, Tryz.ntmps31
    go_wp2_with fail
    refine (rbd_no a _ ha).mono ?_
    rintro e w1 ⟨rfl, hS⟩
    have hA : Box w1 w.heap.size [.int .i64 a.lo.x, .int .i64 a.lo.y, .int .i64 a.lo.z, .int .i64 a.hi.x, .int .i64 a.hi.y, .int .i64 a.hi.z] 38 := ((Box.new rfl).alloc _).step hS
    have hB : Box w1 (w.heap.size + 1) [.int .i64 b.lo.x, .int .i64 b.lo.y, .int .i64 b.lo.z, .int .i64 b.hi.x, .int .i64 b.hi.y, .int .i64 b.hi.z] 38 := (Box.new (by simp)).step hS
    have hW : Below w.heap.size w w1 := (((Below.refl _ _).alloc (Nat.le_refl _) _).alloc (by simp) _).trans (hS.mono (by simp; omega))
    clear hS
    go_wp2
    rw [hv.out]
    exact bodyPost_ret (v := .bool false) (by simp [results, Tryz.results31, go_sem]) rfl ⟨rfl, hW⟩
end Go.Proofs.YtbcjnckejkjfeaaGreat
