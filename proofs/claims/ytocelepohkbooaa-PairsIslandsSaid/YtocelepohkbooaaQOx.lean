/- The order of pairs, with the exact world behind it: the walks. Condition: the pairs may be. -/
import Derived.Test.YtocelepohkbooaaQFn
import Derived.Shelf.SlSortCmp.NoneTotal
namespace Go.Proofs.Ytocelepohkbooaa
set_option linter.unusedVariables false
set_option linter.unusedSimpArgs false
open Go.RowKit Go.NP Go.Lib Go.Sort
namespace QOx
theorem orX {x y : Int} {g : Nat} (w : World) (h : Box w g [.int .i64 x, .int .i64 y] 3) : Calls Try.prog 40 #[.slice (some ⟨g, 0, none⟩) 2 2] w fun e w' => e = .returned (.int .i64 (if x = 0 then y else x)) ∧ w' = w := by
  have z0 := h.cell 0; have z1 := h.cell 1
  simp only [List.getElem?_cons_zero, List.getElem?_cons_succ] at z0 z1
  obtain ⟨r, hr⟩ : ∃ r, (if x = 0 then y else x) = r := ⟨_, rfl⟩
  rw [hr]
  go_enter Try.func40, Try.ntmps40
  go_wp2_with fail
  by_cases hx : x = 0
  · rw [if_pos hx] at hr
    have e1 : (x != 0) = false := by simp [hx]
    by_cases hy : y = 0
    · have e2 : (y != 0) = false := by simp [hy]
      have hr0 : r = 0 := by rw [← hr, hy]
      clear hr
      subst hr0
      refine wp_loop_rounds 3 ?_
      rw [rounds_succ]
      go_wp2_with fail
      rw [rounds_succ]
      go_wp2_with fail
      rw [rounds_succ]
      go_wp2_with fail
      go_ret
      exact ⟨rfl, rfl⟩
    · have e2 : (y != 0) = true := by simp [hy]
      subst hr
      refine wp_loop_rounds 2 ?_
      rw [rounds_succ]
      go_wp2_with fail
      rw [rounds_succ]
      go_wp2_with fail
      go_ret
      exact ⟨rfl, rfl⟩
  · rw [if_neg hx] at hr
    subst hr
    have e1 : (x != 0) = true := by simp [hx]
    refine wp_loop_rounds 1 ?_
    rw [rounds_succ]
    go_wp2_with fail
    go_ret
    exact ⟨rfl, rfl⟩
theorem orderX {p q : Pr} (hp : okP p) (hq : okP q) (w : World) : Calls Try.prog 24 #[.agg #[.int .i64 p.a, .int .i64 p.b], .agg #[.int .i64 q.a, .int .i64 q.b]] w fun e w' => e = .returned (.int .i64 (ordI p q)) ∧ ∃ k os, w' = grow (w.drewN k) os := by
  obtain ⟨a1, a2, a3⟩ := hp
  obtain ⟨b1, b2, b3⟩ := hq
  obtain ⟨r, hr⟩ : ∃ r, ordI p q = r := ⟨_, rfl⟩
  rw [hr]
  have HO := Lib.hid (fun (w1 : World) g (h : Box w1 g [.int .i64 (p.a - q.a), .int .i64 (p.b - q.b)] 3) => (show Calls Try.prog 40 #[.slice (some ⟨g, 0, none⟩) 2 2] w1 fun e w' => e = .returned (.int .i64 r) ∧ w' = w1 from by rw [← hr]; exact orX w1 h))
  clear hr
  go_enter Try.func24, Try.ntmps24
  go_wp2_with fail
  refine (HO.out _ _ (Box.new (by simp))).mono ?_
  rintro e w1 ⟨rfl, rfl⟩
  go_wp2
  go_ret
  exact ⟨rfl, 0, _, by rw [alloc_eq_grow, alloc_eq_grow, alloc_eq_grow, grow_grow, grow_grow]; rfl⟩
end QOx
end Go.Proofs.Ytocelepohkbooaa
