/- The document's own answers on bounds: their walks, second part: Join and Grow. No condition. -/
import Derived.Test.YtegmfmonkaimcaaRef1
namespace Go.Proofs.Ytegmfmonkaimcaa
set_option linter.unusedVariables false
set_option linter.unusedSimpArgs false
open Go.RowKit Go.NP
theorem run_min2 {P : Program} {w : World} (ts : Array TypeId) (t : TypeId) (k k' : IntKind) (x y : Int) : (Builtin.min_ ts t #[.int k x, .int k' y]).run P w = .ok (.int k (min x y)) w := by
  have h : min x y = if y < x then y else x := by split <;> omega
  rw [h]; exact run_min_int2 w ts t k k' x y
theorem run_max2 {P : Program} {w : World} (ts : Array TypeId) (t : TypeId) (k k' : IntKind) (x y : Int) : (Builtin.max_ ts t #[.int k x, .int k' y]).run P w = .ok (.int k (max x y)) w := by
  have h : max x y = if x < y then y else x := by split <;> omega
  rw [h]; exact run_max_int2 w ts t k k' x y
attribute [-go_sem] run_min_int2 run_max_int2
attribute [local go_sem] run_min2 run_max2
set_option maxHeartbeats 2000000 in
theorem rjoin_ok (a b : Bd) (w : World) (ha : a.ok) (hb : b.ok) : RetB Try.prog 19 #[.agg #[.int .i64 a.lo.x, .int .i64 a.lo.y, .int .i64 a.lo.z, .int .i64 a.hi.x, .int .i64 a.hi.y, .int .i64 a.hi.z], .agg #[.int .i64 b.lo.x, .int .i64 b.lo.y, .int .i64 b.lo.z, .int .i64 b.hi.x, .int .i64 b.hi.y, .int .i64 b.hi.z]] w (.agg #[.int .i64 (⟨pmin a.lo b.lo, pmax a.hi b.hi⟩ : Bd).lo.x, .int .i64 (⟨pmin a.lo b.lo, pmax a.hi b.hi⟩ : Bd).lo.y, .int .i64 (⟨pmin a.lo b.lo, pmax a.hi b.hi⟩ : Bd).lo.z, .int .i64 (⟨pmin a.lo b.lo, pmax a.hi b.hi⟩ : Bd).hi.x, .int .i64 (⟨pmin a.lo b.lo, pmax a.hi b.hi⟩ : Bd).hi.y, .int .i64 (⟨pmin a.lo b.lo, pmax a.hi b.hi⟩ : Bd).hi.z]) := by
  unfold RetB
  go_enter Try.func19, Try.ntmps19
  go_wp2_with fail
  refine (rbd_ok a _ ha).mono ?_
  rintro e w1 ⟨rfl, hS⟩
  have hA1 : Box w1 w.heap.size [.int .i64 a.lo.x, .int .i64 a.lo.y, .int .i64 a.lo.z, .int .i64 a.hi.x, .int .i64 a.hi.y, .int .i64 a.hi.z] 26 := (((Box.new rfl).alloc _).alloc _).step hS
  have hB1 : Box w1 (w.heap.size + 1) [.int .i64 b.lo.x, .int .i64 b.lo.y, .int .i64 b.lo.z, .int .i64 b.hi.x, .int .i64 b.hi.y, .int .i64 b.hi.z] 26 := ((Box.new (by simp)).alloc _).step hS
  have hR1 : Box w1 (w.heap.size + 1 + 1) [.int .i64 0, .int .i64 0, .int .i64 0, .int .i64 0, .int .i64 0, .int .i64 0] 26 := (Box.new (by simp)).step hS
  have hW1 : Below w.heap.size w w1 := ((((Below.refl _ _).alloc (Nat.le_refl _) _).alloc (by simp) _).alloc (by simp; omega) _).trans (hS.mono (by simp; omega))
  clear hS
  have d0 := (hB1).cell 0; have d1 := (hB1).cell 1; have d2 := (hB1).cell 2; have d3 := (hB1).cell 3; have d4 := (hB1).cell 4; have d5 := (hB1).cell 5; have df := (hB1).free
  simp only [List.getElem?_cons_zero, List.getElem?_cons_succ] at d0 d1 d2 d3 d4 d5
  go_wp2_with fail
  refine (rbd_ok b _ hb).mono ?_
  rintro e w2 ⟨rfl, hS⟩
  have hA2 := hA1.step hS
  have hB2 := hB1.step hS
  have hR2 := hR1.step hS
  have hW2 := hW1.trans (hS.mono hW1.size)
  clear d0 d1 d2 d3 d4 d5 df
  clear hA1 hB1 hR1 hS
  have c0 := (hA2).cell 0; have c1 := (hA2).cell 1; have c2 := (hA2).cell 2; have c3 := (hA2).cell 3; have c4 := (hA2).cell 4; have c5 := (hA2).cell 5; have cf := (hA2).free
  simp only [List.getElem?_cons_zero, List.getElem?_cons_succ] at c0 c1 c2 c3 c4 c5
  have d0 := (hB2).cell 0; have d1 := (hB2).cell 1; have d2 := (hB2).cell 2; have d3 := (hB2).cell 3; have d4 := (hB2).cell 4; have d5 := (hB2).cell 5; have df := (hB2).free
  simp only [List.getElem?_cons_zero, List.getElem?_cons_succ] at d0 d1 d2 d3 d4 d5
  have q0 := (hR2).cell 0; have q1 := (hR2).cell 1; have q2 := (hR2).cell 2; have q3 := (hR2).cell 3; have q4 := (hR2).cell 4; have q5 := (hR2).cell 5; have qf := (hR2).free
  simp only [List.getElem?_cons_zero, List.getElem?_cons_succ] at q0 q1 q2 q3 q4 q5
  have l0 := hR2.lt
  clear hA2 hB2 hR2
  go_wp2
  exact bodyPost_ret (v := .agg #[.int .i64 (⟨pmin a.lo b.lo, pmax a.hi b.hi⟩ : Bd).lo.x, .int .i64 (⟨pmin a.lo b.lo, pmax a.hi b.hi⟩ : Bd).lo.y, .int .i64 (⟨pmin a.lo b.lo, pmax a.hi b.hi⟩ : Bd).lo.z, .int .i64 (⟨pmin a.lo b.lo, pmax a.hi b.hi⟩ : Bd).hi.x, .int .i64 (⟨pmin a.lo b.lo, pmax a.hi b.hi⟩ : Bd).hi.y, .int .i64 (⟨pmin a.lo b.lo, pmax a.hi b.hi⟩ : Bd).hi.z]) (by simp [results, Try.results19, go_sem, *]; exact ⟨rfl, rfl, rfl, rfl, rfl, rfl⟩) rfl ⟨rfl, ((((((((((((hW2).setCell (by first | omega | (simp; done) | (simp; omega)) _).setCell (by first | omega | (simp; done) | (simp; omega)) _).setCell (by first | omega | (simp; done) | (simp; omega)) _).setCell (by first | omega | (simp; done) | (simp; omega)) _).setCell (by first | omega | (simp; done) | (simp; omega)) _).setCell (by first | omega | (simp; done) | (simp; omega)) _).setCell (by first | omega | (simp; done) | (simp; omega)) _).setCell (by first | omega | (simp; done) | (simp; omega)) _).setCell (by first | omega | (simp; done) | (simp; omega)) _).setCell (by first | omega | (simp; done) | (simp; omega)) _).setCell (by first | omega | (simp; done) | (simp; omega)) _).setCell (by first | omega | (simp; done) | (simp; omega)) _⟩
set_option maxHeartbeats 2000000 in
theorem rjoin_no1 (a b : Bd) (w : World) (ha : ¬ a.ok) : RetB Try.prog 19 #[.agg #[.int .i64 a.lo.x, .int .i64 a.lo.y, .int .i64 a.lo.z, .int .i64 a.hi.x, .int .i64 a.hi.y, .int .i64 a.hi.z], .agg #[.int .i64 b.lo.x, .int .i64 b.lo.y, .int .i64 b.lo.z, .int .i64 b.hi.x, .int .i64 b.hi.y, .int .i64 b.hi.z]] w (.agg #[.int .i64 bzero.lo.x, .int .i64 bzero.lo.y, .int .i64 bzero.lo.z, .int .i64 bzero.hi.x, .int .i64 bzero.hi.y, .int .i64 bzero.hi.z]) := by
  unfold RetB
  go_enter Try.func19, Try.ntmps19
  go_wp2_with fail
  refine (rbd_no a _ ha).mono ?_
  rintro e w1 ⟨rfl, hS⟩
  have hR1 : Box w1 (w.heap.size + 1 + 1) [.int .i64 0, .int .i64 0, .int .i64 0, .int .i64 0, .int .i64 0, .int .i64 0] 26 := (Box.new (by simp)).step hS
  have hW1 : Below w.heap.size w w1 := ((((Below.refl _ _).alloc (Nat.le_refl _) _).alloc (by simp) _).alloc (by simp; omega) _).trans (hS.mono (by simp; omega))
  clear hS
  have d0 := (hR1).cell 0; have d1 := (hR1).cell 1; have d2 := (hR1).cell 2; have d3 := (hR1).cell 3; have d4 := (hR1).cell 4; have d5 := (hR1).cell 5; have df := (hR1).free
  simp only [List.getElem?_cons_zero, List.getElem?_cons_succ] at d0 d1 d2 d3 d4 d5
  go_wp2
  exact bodyPost_ret (v := .agg #[.int .i64 bzero.lo.x, .int .i64 bzero.lo.y, .int .i64 bzero.lo.z, .int .i64 bzero.hi.x, .int .i64 bzero.hi.y, .int .i64 bzero.hi.z]) (by simp [results, Try.results19, go_sem, *]; exact ⟨rfl, rfl, rfl, rfl, rfl, rfl⟩) rfl ⟨rfl, ((((((hW1).setCell (by first | omega | (simp; done) | (simp; omega)) _).setCell (by first | omega | (simp; done) | (simp; omega)) _).setCell (by first | omega | (simp; done) | (simp; omega)) _).setCell (by first | omega | (simp; done) | (simp; omega)) _).setCell (by first | omega | (simp; done) | (simp; omega)) _).setCell (by first | omega | (simp; done) | (simp; omega)) _⟩
set_option maxHeartbeats 2000000 in
theorem rjoin_no2 (a b : Bd) (w : World) (ha : a.ok) (hb : ¬ b.ok) : RetB Try.prog 19 #[.agg #[.int .i64 a.lo.x, .int .i64 a.lo.y, .int .i64 a.lo.z, .int .i64 a.hi.x, .int .i64 a.hi.y, .int .i64 a.hi.z], .agg #[.int .i64 b.lo.x, .int .i64 b.lo.y, .int .i64 b.lo.z, .int .i64 b.hi.x, .int .i64 b.hi.y, .int .i64 b.hi.z]] w (.agg #[.int .i64 bzero.lo.x, .int .i64 bzero.lo.y, .int .i64 bzero.lo.z, .int .i64 bzero.hi.x, .int .i64 bzero.hi.y, .int .i64 bzero.hi.z]) := by
  unfold RetB
  go_enter Try.func19, Try.ntmps19
  go_wp2_with fail
  refine (rbd_ok a _ ha).mono ?_
  rintro e w1 ⟨rfl, hS⟩
  have hB1 : Box w1 (w.heap.size + 1) [.int .i64 b.lo.x, .int .i64 b.lo.y, .int .i64 b.lo.z, .int .i64 b.hi.x, .int .i64 b.hi.y, .int .i64 b.hi.z] 26 := ((Box.new (by simp)).alloc _).step hS
  have hR1 : Box w1 (w.heap.size + 1 + 1) [.int .i64 0, .int .i64 0, .int .i64 0, .int .i64 0, .int .i64 0, .int .i64 0] 26 := (Box.new (by simp)).step hS
  have hW1 : Below w.heap.size w w1 := ((((Below.refl _ _).alloc (Nat.le_refl _) _).alloc (by simp) _).alloc (by simp; omega) _).trans (hS.mono (by simp; omega))
  clear hS
  have d0 := (hB1).cell 0; have d1 := (hB1).cell 1; have d2 := (hB1).cell 2; have d3 := (hB1).cell 3; have d4 := (hB1).cell 4; have d5 := (hB1).cell 5; have df := (hB1).free
  simp only [List.getElem?_cons_zero, List.getElem?_cons_succ] at d0 d1 d2 d3 d4 d5
  go_wp2_with fail
  refine (rbd_no b _ hb).mono ?_
  rintro e w2 ⟨rfl, hS⟩
  have hR2 := hR1.step hS
  have hW2 := hW1.trans (hS.mono hW1.size)
  clear d0 d1 d2 d3 d4 d5 df
  clear hB1 hR1 hS
  have d0 := (hR2).cell 0; have d1 := (hR2).cell 1; have d2 := (hR2).cell 2; have d3 := (hR2).cell 3; have d4 := (hR2).cell 4; have d5 := (hR2).cell 5; have df := (hR2).free
  simp only [List.getElem?_cons_zero, List.getElem?_cons_succ] at d0 d1 d2 d3 d4 d5
  go_wp2
  exact bodyPost_ret (v := .agg #[.int .i64 bzero.lo.x, .int .i64 bzero.lo.y, .int .i64 bzero.lo.z, .int .i64 bzero.hi.x, .int .i64 bzero.hi.y, .int .i64 bzero.hi.z]) (by simp [results, Try.results19, go_sem, *]; exact ⟨rfl, rfl, rfl, rfl, rfl, rfl⟩) rfl ⟨rfl, ((((((hW2).setCell (by first | omega | (simp; done) | (simp; omega)) _).setCell (by first | omega | (simp; done) | (simp; omega)) _).setCell (by first | omega | (simp; done) | (simp; omega)) _).setCell (by first | omega | (simp; done) | (simp; omega)) _).setCell (by first | omega | (simp; done) | (simp; omega)) _).setCell (by first | omega | (simp; done) | (simp; omega)) _⟩
theorem rjoinC (a b : Bd) (w : World) : RetB Try.prog 19 #[.agg #[.int .i64 a.lo.x, .int .i64 a.lo.y, .int .i64 a.lo.z, .int .i64 a.hi.x, .int .i64 a.hi.y, .int .i64 a.hi.z], .agg #[.int .i64 b.lo.x, .int .i64 b.lo.y, .int .i64 b.lo.z, .int .i64 b.hi.x, .int .i64 b.hi.y, .int .i64 b.hi.z]] w (.agg #[.int .i64 (join a b).lo.x, .int .i64 (join a b).lo.y, .int .i64 (join a b).lo.z, .int .i64 (join a b).hi.x, .int .i64 (join a b).hi.y, .int .i64 (join a b).hi.z]) := by
  by_cases ha : a.ok
  · by_cases hb : b.ok
    · rw [show join a b = ⟨pmin a.lo b.lo, pmax a.hi b.hi⟩ from if_pos ⟨ha, hb⟩]; exact rjoin_ok a b w ha hb
    · rw [show join a b = bzero from if_neg fun h => hb h.2]; exact rjoin_no2 a b w ha hb
  · rw [show join a b = bzero from if_neg fun h => ha h.1]; exact rjoin_no1 a b w ha
set_option maxHeartbeats 2000000 in
theorem rgrow_no (a : Bd) (r : Int) (w : World) (ha : ¬ a.ok) : RetB Try.prog 21 #[.agg #[.int .i64 a.lo.x, .int .i64 a.lo.y, .int .i64 a.lo.z, .int .i64 a.hi.x, .int .i64 a.hi.y, .int .i64 a.hi.z], .int .i64 r] w (.agg #[.int .i64 bzero.lo.x, .int .i64 bzero.lo.y, .int .i64 bzero.lo.z, .int .i64 bzero.hi.x, .int .i64 bzero.hi.y, .int .i64 bzero.hi.z]) := by
  unfold RetB
  go_enter Try.func21, Try.ntmps21
  go_wp2_with fail
  refine (rbd_no a _ ha).mono ?_
  rintro e w1 ⟨rfl, hS⟩
  have hA1 : Box w1 w.heap.size [.int .i64 a.lo.x, .int .i64 a.lo.y, .int .i64 a.lo.z, .int .i64 a.hi.x, .int .i64 a.hi.y, .int .i64 a.hi.z] 26 := ((Box.new rfl).alloc _).step hS
  have hR1 : Box w1 (w.heap.size + 1) [.int .i64 0, .int .i64 0, .int .i64 0, .int .i64 0, .int .i64 0, .int .i64 0] 26 := (Box.new (by simp)).step hS
  have hW1 : Below w.heap.size w w1 := (((Below.refl _ _).alloc (Nat.le_refl _) _).alloc (by simp) _).trans (hS.mono (by simp; omega))
  clear hS
  have c0 := (hA1).cell 0; have c1 := (hA1).cell 1; have c2 := (hA1).cell 2; have c3 := (hA1).cell 3; have c4 := (hA1).cell 4; have c5 := (hA1).cell 5; have cf := (hA1).free
  simp only [List.getElem?_cons_zero, List.getElem?_cons_succ] at c0 c1 c2 c3 c4 c5
  have q0 := (hR1).cell 0; have q1 := (hR1).cell 1; have q2 := (hR1).cell 2; have q3 := (hR1).cell 3; have q4 := (hR1).cell 4; have q5 := (hR1).cell 5; have qf := (hR1).free
  simp only [List.getElem?_cons_zero, List.getElem?_cons_succ] at q0 q1 q2 q3 q4 q5
  have l0 := hR1.lt
  clear hA1 hR1
  go_wp2
  exact bodyPost_ret (v := .agg #[.int .i64 bzero.lo.x, .int .i64 bzero.lo.y, .int .i64 bzero.lo.z, .int .i64 bzero.hi.x, .int .i64 bzero.hi.y, .int .i64 bzero.hi.z]) (by simp [results, Try.results21, go_sem, *]; exact ⟨rfl, rfl, rfl, rfl, rfl, rfl⟩) rfl ⟨rfl, ((((((hW1).setCell (by first | omega | (simp; done) | (simp; omega)) _).setCell (by first | omega | (simp; done) | (simp; omega)) _).setCell (by first | omega | (simp; done) | (simp; omega)) _).setCell (by first | omega | (simp; done) | (simp; omega)) _).setCell (by first | omega | (simp; done) | (simp; omega)) _).setCell (by first | omega | (simp; done) | (simp; omega)) _⟩
set_option maxHeartbeats 2000000 in
theorem rgrow_same (a : Bd) (r : Int) (w : World) (ha : a.ok) (hr : decide (r < 0) = true ∨ (decide (r < 0) = false ∧ decide (268435456 < r) = true)) : RetB Try.prog 21 #[.agg #[.int .i64 a.lo.x, .int .i64 a.lo.y, .int .i64 a.lo.z, .int .i64 a.hi.x, .int .i64 a.hi.y, .int .i64 a.hi.z], .int .i64 r] w (.agg #[.int .i64 a.lo.x, .int .i64 a.lo.y, .int .i64 a.lo.z, .int .i64 a.hi.x, .int .i64 a.hi.y, .int .i64 a.hi.z]) := by
  rcases hr with e1 | ⟨e1, e2⟩
  all_goals
    unfold RetB
    go_enter Try.func21, Try.ntmps21
    go_wp2_with fail
    refine (rbd_ok a _ ha).mono ?_
    rintro e w1 ⟨rfl, hS⟩
    have hA1 : Box w1 w.heap.size [.int .i64 a.lo.x, .int .i64 a.lo.y, .int .i64 a.lo.z, .int .i64 a.hi.x, .int .i64 a.hi.y, .int .i64 a.hi.z] 26 := ((Box.new rfl).alloc _).step hS
    have hR1 : Box w1 (w.heap.size + 1) [.int .i64 0, .int .i64 0, .int .i64 0, .int .i64 0, .int .i64 0, .int .i64 0] 26 := (Box.new (by simp)).step hS
    have hW1 : Below w.heap.size w w1 := (((Below.refl _ _).alloc (Nat.le_refl _) _).alloc (by simp) _).trans (hS.mono (by simp; omega))
    clear hS
    have c0 := (hA1).cell 0; have c1 := (hA1).cell 1; have c2 := (hA1).cell 2; have c3 := (hA1).cell 3; have c4 := (hA1).cell 4; have c5 := (hA1).cell 5; have cf := (hA1).free
    simp only [List.getElem?_cons_zero, List.getElem?_cons_succ] at c0 c1 c2 c3 c4 c5
    have q0 := (hR1).cell 0; have q1 := (hR1).cell 1; have q2 := (hR1).cell 2; have q3 := (hR1).cell 3; have q4 := (hR1).cell 4; have q5 := (hR1).cell 5; have qf := (hR1).free
    simp only [List.getElem?_cons_zero, List.getElem?_cons_succ] at q0 q1 q2 q3 q4 q5
    have l0 := hR1.lt
    clear hA1 hR1
    go_wp2
    exact bodyPost_ret (v := .agg #[.int .i64 a.lo.x, .int .i64 a.lo.y, .int .i64 a.lo.z, .int .i64 a.hi.x, .int .i64 a.hi.y, .int .i64 a.hi.z]) (by simp [results, Try.results21, go_sem, *]) rfl ⟨rfl, ((((((hW1).setCell (by first | omega | (simp; done) | (simp; omega)) _).setCell (by first | omega | (simp; done) | (simp; omega)) _).setCell (by first | omega | (simp; done) | (simp; omega)) _).setCell (by first | omega | (simp; done) | (simp; omega)) _).setCell (by first | omega | (simp; done) | (simp; omega)) _).setCell (by first | omega | (simp; done) | (simp; omega)) _⟩
set_option maxHeartbeats 4000000 in
theorem rgrow_ok (a : Bd) (r : Int) (w : World) (ha : a.ok) (h0 : 0 ≤ r) (h1 : r ≤ 268435456) : RetB Try.prog 21 #[.agg #[.int .i64 a.lo.x, .int .i64 a.lo.y, .int .i64 a.lo.z, .int .i64 a.hi.x, .int .i64 a.hi.y, .int .i64 a.hi.z], .int .i64 r] w
    (.agg #[.int .i64 (⟨⟨down a.lo.x r, down a.lo.y r, down a.lo.z r⟩, ⟨up a.hi.x r, up a.hi.y r, up a.hi.z r⟩⟩ : Bd).lo.x, .int .i64 (⟨⟨down a.lo.x r, down a.lo.y r, down a.lo.z r⟩, ⟨up a.hi.x r, up a.hi.y r, up a.hi.z r⟩⟩ : Bd).lo.y, .int .i64 (⟨⟨down a.lo.x r, down a.lo.y r, down a.lo.z r⟩, ⟨up a.hi.x r, up a.hi.y r, up a.hi.z r⟩⟩ : Bd).lo.z, .int .i64 (⟨⟨down a.lo.x r, down a.lo.y r, down a.lo.z r⟩, ⟨up a.hi.x r, up a.hi.y r, up a.hi.z r⟩⟩ : Bd).hi.x, .int .i64 (⟨⟨down a.lo.x r, down a.lo.y r, down a.lo.z r⟩, ⟨up a.hi.x r, up a.hi.y r, up a.hi.z r⟩⟩ : Bd).hi.y, .int .i64 (⟨⟨down a.lo.x r, down a.lo.y r, down a.lo.z r⟩, ⟨up a.hi.x r, up a.hi.y r, up a.hi.z r⟩⟩ : Bd).hi.z]) := by
  have e1 : decide (r < 0) = false := decide_eq_false (by omega)
  have e2 : decide (268435456 < r) = false := decide_eq_false (by omega)
  obtain ⟨⟨a1, a2, a3⟩, ⟨a4, a5, a6⟩, _⟩ := id ha
  obtain ⟨a1, b1⟩ := a1; obtain ⟨a2, b2⟩ := a2; obtain ⟨a3, b3⟩ := a3; obtain ⟨a4, b4⟩ := a4; obtain ⟨a5, b5⟩ := a5; obtain ⟨a6, b6⟩ := a6
  unfold RetB
  go_enter Try.func21, Try.ntmps21
  go_wp2_with fail
  refine (rbd_ok a _ ha).mono ?_
  rintro e w1 ⟨rfl, hS⟩
  have hA1 : Box w1 w.heap.size [.int .i64 a.lo.x, .int .i64 a.lo.y, .int .i64 a.lo.z, .int .i64 a.hi.x, .int .i64 a.hi.y, .int .i64 a.hi.z] 26 := ((Box.new rfl).alloc _).step hS
  have hR1 : Box w1 (w.heap.size + 1) [.int .i64 0, .int .i64 0, .int .i64 0, .int .i64 0, .int .i64 0, .int .i64 0] 26 := (Box.new (by simp)).step hS
  have hW1 : Below w.heap.size w w1 := (((Below.refl _ _).alloc (Nat.le_refl _) _).alloc (by simp) _).trans (hS.mono (by simp; omega))
  clear hS
  have c0 := (hA1).cell 0; have c1 := (hA1).cell 1; have c2 := (hA1).cell 2; have c3 := (hA1).cell 3; have c4 := (hA1).cell 4; have c5 := (hA1).cell 5; have cf := (hA1).free
  simp only [List.getElem?_cons_zero, List.getElem?_cons_succ] at c0 c1 c2 c3 c4 c5
  have q0 := (hR1).cell 0; have q1 := (hR1).cell 1; have q2 := (hR1).cell 2; have q3 := (hR1).cell 3; have q4 := (hR1).cell 4; have q5 := (hR1).cell 5; have qf := (hR1).free
  simp only [List.getElem?_cons_zero, List.getElem?_cons_succ] at q0 q1 q2 q3 q4 q5
  have l0 := hR1.lt
  clear hA1 hR1
  go_wp2
  exact bodyPost_ret (v := .agg #[.int .i64 (⟨⟨down a.lo.x r, down a.lo.y r, down a.lo.z r⟩, ⟨up a.hi.x r, up a.hi.y r, up a.hi.z r⟩⟩ : Bd).lo.x, .int .i64 (⟨⟨down a.lo.x r, down a.lo.y r, down a.lo.z r⟩, ⟨up a.hi.x r, up a.hi.y r, up a.hi.z r⟩⟩ : Bd).lo.y, .int .i64 (⟨⟨down a.lo.x r, down a.lo.y r, down a.lo.z r⟩, ⟨up a.hi.x r, up a.hi.y r, up a.hi.z r⟩⟩ : Bd).lo.z, .int .i64 (⟨⟨down a.lo.x r, down a.lo.y r, down a.lo.z r⟩, ⟨up a.hi.x r, up a.hi.y r, up a.hi.z r⟩⟩ : Bd).hi.x, .int .i64 (⟨⟨down a.lo.x r, down a.lo.y r, down a.lo.z r⟩, ⟨up a.hi.x r, up a.hi.y r, up a.hi.z r⟩⟩ : Bd).hi.y, .int .i64 (⟨⟨down a.lo.x r, down a.lo.y r, down a.lo.z r⟩, ⟨up a.hi.x r, up a.hi.y r, up a.hi.z r⟩⟩ : Bd).hi.z]) (by simp [results, Try.results21, go_sem, *]; exact ⟨rfl, rfl, rfl, rfl, rfl, rfl⟩) rfl ⟨rfl, ((((((((((((hW1).setCell (by first | omega | (simp; done) | (simp; omega)) _).setCell (by first | omega | (simp; done) | (simp; omega)) _).setCell (by first | omega | (simp; done) | (simp; omega)) _).setCell (by first | omega | (simp; done) | (simp; omega)) _).setCell (by first | omega | (simp; done) | (simp; omega)) _).setCell (by first | omega | (simp; done) | (simp; omega)) _).setCell (by first | omega | (simp; done) | (simp; omega)) _).setCell (by first | omega | (simp; done) | (simp; omega)) _).setCell (by first | omega | (simp; done) | (simp; omega)) _).setCell (by first | omega | (simp; done) | (simp; omega)) _).setCell (by first | omega | (simp; done) | (simp; omega)) _).setCell (by first | omega | (simp; done) | (simp; omega)) _⟩
theorem down0 {n : Int} (h : okN n) : down n 0 = n := by obtain ⟨h1, h2⟩ := h; unfold down; omega
theorem up0 {n : Int} (h : okN n) : up n 0 = n := by obtain ⟨h1, h2⟩ := h; unfold up; omega
theorem grow_bad {a : Bd} {r : Int} (ha : a.ok) (hr : ¬ (0 ≤ r ∧ r ≤ 268435456)) : grow a r = a := by
  obtain ⟨⟨a1, a2, a3⟩, ⟨a4, a5, a6⟩, h⟩ := id ha
  unfold grow
  rw [if_pos ha, show rOk r = 0 from if_neg hr, down0 a1, down0 a2, down0 a3, up0 a4, up0 a5, up0 a6]
theorem rgrowC (a : Bd) (r : Int) (w : World) : RetB Try.prog 21 #[.agg #[.int .i64 a.lo.x, .int .i64 a.lo.y, .int .i64 a.lo.z, .int .i64 a.hi.x, .int .i64 a.hi.y, .int .i64 a.hi.z], .int .i64 r] w (.agg #[.int .i64 (grow a r).lo.x, .int .i64 (grow a r).lo.y, .int .i64 (grow a r).lo.z, .int .i64 (grow a r).hi.x, .int .i64 (grow a r).hi.y, .int .i64 (grow a r).hi.z]) := by
  by_cases ha : a.ok
  · by_cases hr : 0 ≤ r ∧ r ≤ 268435456
    · have e : grow a r = ⟨⟨down a.lo.x r, down a.lo.y r, down a.lo.z r⟩, ⟨up a.hi.x r, up a.hi.y r, up a.hi.z r⟩⟩ := by
        unfold grow; rw [if_pos ha, show rOk r = r from if_pos hr]
      rw [e]; exact rgrow_ok a r w ha hr.1 hr.2
    · rw [grow_bad ha hr]
      refine rgrow_same a r w ha ?_
      by_cases h0 : r < 0
      · exact .inl (decide_eq_true h0)
      · exact .inr ⟨decide_eq_false h0, decide_eq_true (by omega)⟩
  · rw [show grow a r = bzero from if_neg ha]; exact rgrow_no a r w ha
end Go.Proofs.Ytegmfmonkaimcaa
