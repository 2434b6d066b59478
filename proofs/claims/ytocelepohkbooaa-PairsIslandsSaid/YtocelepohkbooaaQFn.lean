/- May a pair be; the order of pairs: the walks. No condition but that the pairs may be. -/
import Derived.Test.YtocelepohkbooaaQSl
import Derived.Lib.Hide
import Derived.IntWalk
namespace Go.Proofs.Ytocelepohkbooaa
set_option linter.unusedVariables false
set_option linter.unusedSimpArgs false
open Go.RowKit Go.NP
def okP (p : Pr) : Prop := 1 ≤ p.a ∧ p.a < p.b ∧ p.b ≤ 4096
instance (p : Pr) : Decidable (okP p) := by unfold okP; infer_instance
/-- One stands ahead of another. -/
def ltP (p q : Pr) : Prop := p.a < q.a ∨ p.a = q.a ∧ p.b < q.b
instance (p q : Pr) : Decidable (ltP p q) := by unfold ltP; infer_instance
def ordI (p q : Pr) : Int := if p.a - q.a = 0 then p.b - q.b else p.a - q.a
theorem ordI_lt (p q : Pr) : ordI p q < 0 ↔ ltP p q := by unfold ordI ltP; split <;> omega
theorem ordI_zero (p q : Pr) : ordI p q = 0 ↔ p = q := by
  obtain ⟨a, b⟩ := p; obtain ⟨c, d⟩ := q
  unfold ordI; simp only [Pr.mk.injEq]; split <;> omega
theorem mayC (p : Pr) (w : World) : RetB Try.prog 37 #[.agg #[.int .i64 p.a, .int .i64 p.b]] w (.bool (decide (okP p))) := by
  by_cases h1 : 1 ≤ p.a
  · by_cases h2 : p.a < p.b
    · by_cases h3 : p.b ≤ 4096
      · rw [decide_eq_true (show okP p from ⟨h1, h2, h3⟩)]
        have e1 : decide (p.a ≥ 1) = true := decide_eq_true h1
        have e2 : decide (p.a < p.b) = true := decide_eq_true h2
        have e3 : decide (p.b ≤ 4096) = true := decide_eq_true h3
        unfold RetB
        go_enter Try.func37, Try.ntmps37
        go_wp2
        go_ret
        exact ⟨rfl, (Below.refl _ _).alloc (Nat.le_refl _) _⟩
      · rw [decide_eq_false (fun h : okP p => h3 h.2.2)]
        have e1 : decide (p.a ≥ 1) = true := decide_eq_true h1
        have e2 : decide (p.a < p.b) = true := decide_eq_true h2
        have e3 : decide (p.b ≤ 4096) = false := decide_eq_false h3
        unfold RetB
        go_enter Try.func37, Try.ntmps37
        go_wp2
        go_ret
        exact ⟨rfl, (Below.refl _ _).alloc (Nat.le_refl _) _⟩
    · rw [decide_eq_false (fun h : okP p => h2 h.2.1)]
      have e1 : decide (p.a ≥ 1) = true := decide_eq_true h1
      have e2 : decide (p.a < p.b) = false := decide_eq_false h2
      unfold RetB
      go_enter Try.func37, Try.ntmps37
      go_wp2
      go_ret
      exact ⟨rfl, (Below.refl _ _).alloc (Nat.le_refl _) _⟩
  · rw [decide_eq_false (fun h : okP p => h1 h.1)]
    have e1 : decide (p.a ≥ 1) = false := decide_eq_false h1
    unfold RetB
    go_enter Try.func37, Try.ntmps37
    go_wp2
    go_ret
    exact ⟨rfl, (Below.refl _ _).alloc (Nat.le_refl _) _⟩
theorem rmayC (p : Pr) (w : World) : RetB Try.prog 41 #[.agg #[.int .i64 p.a, .int .i64 p.b]] w (.bool (decide (okP p))) := by
  by_cases h1 : 1 ≤ p.a
  · by_cases h3 : p.b ≤ 4096
    · by_cases h2 : p.a < p.b
      · rw [decide_eq_true (show okP p from ⟨h1, h2, h3⟩)]
        have e1 : decide (p.a ≥ 1) = true := decide_eq_true h1
        have e2 : decide (p.a < p.b) = true := decide_eq_true h2
        have e3 : decide (p.b ≤ 4096) = true := decide_eq_true h3
        unfold RetB
        go_enter Try.func41, Try.ntmps41
        go_wp2
        go_ret
        exact ⟨rfl, (Below.refl _ _).alloc (Nat.le_refl _) _⟩
      · rw [decide_eq_false (fun h : okP p => h2 h.2.1)]
        have e1 : decide (p.a ≥ 1) = true := decide_eq_true h1
        have e2 : decide (p.a < p.b) = false := decide_eq_false h2
        have e3 : decide (p.b ≤ 4096) = true := decide_eq_true h3
        unfold RetB
        go_enter Try.func41, Try.ntmps41
        go_wp2
        go_ret
        exact ⟨rfl, (Below.refl _ _).alloc (Nat.le_refl _) _⟩
    · rw [decide_eq_false (fun h : okP p => h3 h.2.2)]
      have e1 : decide (p.a ≥ 1) = true := decide_eq_true h1
      have e3 : decide (p.b ≤ 4096) = false := decide_eq_false h3
      unfold RetB
      go_enter Try.func41, Try.ntmps41
      go_wp2
      go_ret
      exact ⟨rfl, (Below.refl _ _).alloc (Nat.le_refl _) _⟩
  · rw [decide_eq_false (fun h : okP p => h1 h.1)]
    have e1 : decide (p.a ≥ 1) = false := decide_eq_false h1
    unfold RetB
    go_enter Try.func41, Try.ntmps41
    go_wp2
    go_ret
    exact ⟨rfl, (Below.refl _ _).alloc (Nat.le_refl _) _⟩
theorem aheadC (p q : Pr) (w : World) : RetB Try.prog 28 #[.agg #[.int .i64 p.a, .int .i64 p.b], .agg #[.int .i64 q.a, .int .i64 q.b]] w (.bool (decide (ltP p q))) := by
  by_cases h1 : p.a < q.a
  · rw [decide_eq_true (show ltP p q from .inl h1)]
    have e1 : decide (p.a < q.a) = true := decide_eq_true h1
    unfold RetB
    go_enter Try.func28, Try.ntmps28
    go_wp2
    go_ret
    exact ⟨rfl, ((Below.refl _ _).alloc (Nat.le_refl _) _).alloc (by simp) _⟩
  · have e1 : decide (p.a < q.a) = false := decide_eq_false h1
    by_cases h2 : p.a = q.a
    · have e2 : (p.a == q.a) = true := by simpa using h2
      by_cases h3 : p.b < q.b
      · rw [decide_eq_true (show ltP p q from .inr ⟨h2, h3⟩)]
        have e3 : decide (p.b < q.b) = true := decide_eq_true h3
        unfold RetB
        go_enter Try.func28, Try.ntmps28
        go_wp2
        go_ret
        exact ⟨rfl, ((Below.refl _ _).alloc (Nat.le_refl _) _).alloc (by simp) _⟩
      · rw [decide_eq_false (fun h : ltP p q => h.elim h1 fun h => h3 h.2)]
        have e3 : decide (p.b < q.b) = false := decide_eq_false h3
        unfold RetB
        go_enter Try.func28, Try.ntmps28
        go_wp2
        go_ret
        exact ⟨rfl, ((Below.refl _ _).alloc (Nat.le_refl _) _).alloc (by simp) _⟩
    · have e2 : (p.a == q.a) = false := by simpa using h2
      rw [decide_eq_false (fun h : ltP p q => h.elim h1 fun h => h2 h.1)]
      unfold RetB
      go_enter Try.func28, Try.ntmps28
      go_wp2
      go_ret
      exact ⟨rfl, ((Below.refl _ _).alloc (Nat.le_refl _) _).alloc (by simp) _⟩
theorem orC {x y : Int} {g : Nat} (w : World) (h : Box w g [.int .i64 x, .int .i64 y] 3) : RetB Try.prog 40 #[.slice (some ⟨g, 0, none⟩) 2 2] w (.int .i64 (if x = 0 then y else x)) := by
  have z0 := h.cell 0; have z1 := h.cell 1
  simp only [List.getElem?_cons_zero, List.getElem?_cons_succ] at z0 z1
  obtain ⟨r, hr⟩ : ∃ r, (if x = 0 then y else x) = r := ⟨_, rfl⟩
  rw [hr]
  unfold RetB
  go_enter Try.func40, Try.ntmps40
  go_wp2_with fail
  by_cases hx : x = 0
  · rw [if_pos hx] at hr
    have e1 : (x != 0) = false := by simp [hx]
    by_cases hy : y = 0
    · have e2 : (y != 0) = false := by simp [hy]
      have hr0 : r = 0 := by rw [← hr, hy]
      clear hr
      subst hr0
      refine wp_loop_rounds 3 ?_
      rw [rounds_succ]
      go_wp2_with fail
      rw [rounds_succ]
      go_wp2_with fail
      rw [rounds_succ]
      go_wp2_with fail
      go_ret
      exact ⟨rfl, Below.refl _ _⟩
    · have e2 : (y != 0) = true := by simp [hy]
      subst hr
      refine wp_loop_rounds 2 ?_
      rw [rounds_succ]
      go_wp2_with fail
      rw [rounds_succ]
      go_wp2_with fail
      go_ret
      exact ⟨rfl, Below.refl _ _⟩
  · rw [if_neg hx] at hr
    subst hr
    have e1 : (x != 0) = true := by simp [hx]
    refine wp_loop_rounds 1 ?_
    rw [rounds_succ]
    go_wp2_with fail
    go_ret
    exact ⟨rfl, Below.refl _ _⟩
theorem orderC {p q : Pr} (hp : okP p) (hq : okP q) (w : World) : RetB Try.prog 24 #[.agg #[.int .i64 p.a, .int .i64 p.b], .agg #[.int .i64 q.a, .int .i64 q.b]] w (.int .i64 (ordI p q)) := by
  obtain ⟨a1, a2, a3⟩ := hp
  obtain ⟨b1, b2, b3⟩ := hq
  unfold RetB
  go_enter Try.func24, Try.ntmps24
  go_wp2_with fail
  have hB := (((Below.refl w.heap.size w).alloc (Nat.le_refl _) (.cells #[.int .i64 p.a, .int .i64 p.b] 39)).alloc (by simp) (.cells #[.int .i64 q.a, .int .i64 q.b] 39)).alloc (by simp; omega) (.cells #[.int .i64 (p.a - q.a), .int .i64 (p.b - q.b)] 3)
  refine ((orC _ (Box.new (l := [.int .i64 (p.a - q.a), .int .i64 (p.b - q.b)]) (by simp))).eq (v' := .int .i64 (ordI p q)) (by rfl)).mono ?_
  rintro e w1 ⟨rfl, hS⟩
  have hW := hB.trans (hS.mono (by simp; omega))
  go_wp2
  go_ret
  exact ⟨rfl, hW⟩
end Go.Proofs.Ytocelepohkbooaa
