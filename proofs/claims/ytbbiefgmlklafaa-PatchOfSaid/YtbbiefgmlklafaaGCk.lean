/- May a point be: the walk. No condition. -/
import Derived.Test.YtbbiefgmlklafaaProg
import Derived.Test.YtbbiefgmlklafaaReg
import Derived.WalkKit
import Derived.WalkSpells
import Derived.WalkLawsBesides
import Derived.Test.YtbbiefgmlklafaaSpec
import Derived.Lib.Hide
namespace Go.Proofs.Ytbbiefgmlklafaa
set_option linter.unusedVariables false
set_option linter.unusedSimpArgs false
open Go.RowKit Go.NP
namespace GCk
theorem okN_lo {n : Int} (h : okN n) : decide (n < -268435456) = false := decide_eq_false (by unfold okN at h; omega)
theorem okN_hi {n : Int} (h : okN n) : decide (268435456 < n) = false := decide_eq_false (by unfold okN at h; omega)
theorem okN_no {n : Int} (h : ¬ okN n) : decide (n < -268435456) = true ∨ (decide (n < -268435456) = false ∧ decide (268435456 < n) = true) := by
  unfold okN at h
  by_cases h1 : n < -268435456
  · exact .inl (decide_eq_true h1)
  · exact .inr ⟨decide_eq_false h1, decide_eq_true (by omega)⟩

set_option maxHeartbeats 1000000 in
theorem gcheck_ok (p : Pt) (w : World) (h : p.ok) : RetB Try.prog 14 #[.agg #[.int .i64 p.x, .int .i64 p.y, .int .i64 p.z]] w (.int .i64 0) := by
  obtain ⟨hx, hy, hz⟩ := h
  have a1 := okN_lo hx; have a2 := okN_hi hx; have b1 := okN_lo hy; have b2 := okN_hi hy; have c1 := okN_lo hz; have c2 := okN_hi hz
  clear hx hy hz
  have i0 : ∀ w, (Instr.index 61 (.agg #[.int .i64 p.x, .int .i64 p.y, .int .i64 p.z]) (.int .i64 0)).run Try.prog w = .ok (.int .i64 p.x) w := fun _ => by kernel_rfl
  have i1 : ∀ w, (Instr.index 61 (.agg #[.int .i64 p.x, .int .i64 p.y, .int .i64 p.z]) (.int .i64 1)).run Try.prog w = .ok (.int .i64 p.y) w := fun _ => by kernel_rfl
  have i2 : ∀ w, (Instr.index 61 (.agg #[.int .i64 p.x, .int .i64 p.y, .int .i64 p.z]) (.int .i64 2)).run Try.prog w = .ok (.int .i64 p.z) w := fun _ => by kernel_rfl
  unfold RetB
  go_enter Try.func14, Try.ntmps14
  go_wp2
  refine wp_loop_rounds 4 ?_
  rw [rounds_succ]; go_wp2
  rw [rounds_succ]; go_wp2
  rw [rounds_succ]; go_wp2
  rw [rounds_succ]; go_wp2
  go_ret
  exact ⟨rfl, (Below.refl _ _).alloc (Nat.le_refl _) _⟩
set_option maxHeartbeats 1000000 in
theorem gcheck_no (p : Pt) (w : World) (h : ¬ p.ok) : RetB Try.prog 14 #[.agg #[.int .i64 p.x, .int .i64 p.y, .int .i64 p.z]] w (.int .i64 7) := by
  have i0 : ∀ w, (Instr.index 61 (.agg #[.int .i64 p.x, .int .i64 p.y, .int .i64 p.z]) (.int .i64 0)).run Try.prog w = .ok (.int .i64 p.x) w := fun _ => by kernel_rfl
  have i1 : ∀ w, (Instr.index 61 (.agg #[.int .i64 p.x, .int .i64 p.y, .int .i64 p.z]) (.int .i64 1)).run Try.prog w = .ok (.int .i64 p.y) w := fun _ => by kernel_rfl
  have i2 : ∀ w, (Instr.index 61 (.agg #[.int .i64 p.x, .int .i64 p.y, .int .i64 p.z]) (.int .i64 2)).run Try.prog w = .ok (.int .i64 p.z) w := fun _ => by kernel_rfl
  unfold Pt.ok at h
  unfold RetB
  by_cases hx : okN p.x
  · have a1 := okN_lo hx; have a2 := okN_hi hx
    by_cases hy : okN p.y
    · have b1 := okN_lo hy; have b2 := okN_hi hy
      have hz : ¬ okN p.z := fun hz => h ⟨hx, hy, hz⟩
      clear h hx hy
      rcases okN_no hz with h1 | ⟨h1, h1'⟩
      all_goals
        clear hz
        go_enter Try.func14, Try.ntmps14
        go_wp2
        refine wp_loop_rounds 4 ?_
        rw [rounds_succ]; go_wp2
        rw [rounds_succ]; go_wp2
        rw [rounds_succ]; go_wp2
        go_ret
        exact ⟨rfl, (Below.refl _ _).alloc (Nat.le_refl _) _⟩
    · clear h hx
      rcases okN_no hy with h1 | ⟨h1, h1'⟩
      all_goals
        clear hy
        go_enter Try.func14, Try.ntmps14
        go_wp2
        refine wp_loop_rounds 4 ?_
        rw [rounds_succ]; go_wp2
        rw [rounds_succ]; go_wp2
        go_ret
        exact ⟨rfl, (Below.refl _ _).alloc (Nat.le_refl _) _⟩
  · clear h
    rcases okN_no hx with h1 | ⟨h1, h1'⟩
    all_goals
      clear hx
      go_enter Try.func14, Try.ntmps14
      go_wp2
      refine wp_loop_rounds 4 ?_
      rw [rounds_succ]; go_wp2
      go_ret
      exact ⟨rfl, (Below.refl _ _).alloc (Nat.le_refl _) _⟩
theorem gcheckC (p : Pt) (w : World) : RetB Try.prog 14 #[.agg #[.int .i64 p.x, .int .i64 p.y, .int .i64 p.z]] w (.int .i64 (errIf p.ok)) := by
  by_cases h : p.ok
  · rw [errIf_pos h]; exact gcheck_ok p w h
  · rw [errIf_neg h]; exact gcheck_no p w h
end GCk
end Go.Proofs.Ytbbiefgmlklafaa
