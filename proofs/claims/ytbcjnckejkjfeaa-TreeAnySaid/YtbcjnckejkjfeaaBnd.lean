/- What the functions of bounds answer: their walks. No condition. -/
import Derived.Test.YtbcjnckejkjfeaaProg
import Derived.Test.YtbcjnckejkjfeaaReg
import Derived.WalkKit
import Derived.WalkSpells
import Derived.WalkLawsBesides
import Derived.Test.YtbcjnckejkjfeaaSpec
import Derived.Lib.Hide
namespace Go.Proofs.Ytbcjnckejkjfeaa
set_option linter.unusedVariables false
set_option linter.unusedSimpArgs false
open Go.RowKit Go.NP
theorem cf46 (args : Array Value) (w1 : World) : (callFunc 46 args).run Try.prog w1 = .ok (.enter 46 args) w1 := enters Try.func46 (by kernel_rfl) (by kernel_rfl) args w1
theorem cf47 (args : Array Value) (w1 : World) : (callFunc 47 args).run Try.prog w1 = .ok (.enter 47 args) w1 := enters Try.func47 (by kernel_rfl) (by kernel_rfl) args w1
theorem cf52 (args : Array Value) (w1 : World) : (callFunc 52 args).run Try.prog w1 = .ok (.enter 52 args) w1 := enters Try.func52 (by kernel_rfl) (by kernel_rfl) args w1
theorem cf53 (args : Array Value) (w1 : World) : (callFunc 53 args).run Try.prog w1 = .ok (.enter 53 args) w1 := enters Try.func53 (by kernel_rfl) (by kernel_rfl) args w1
theorem cf45 (args : Array Value) (w1 : World) : (callFunc 45 args).run Try.prog w1 = .ok (.enter 45 args) w1 := enters Try.func45 (by kernel_rfl) (by kernel_rfl) args w1
theorem cf31 (args : Array Value) (w1 : World) : (callFunc 31 args).run Try.prog w1 = .ok (.enter 31 args) w1 := enters Try.func31 (by kernel_rfl) (by kernel_rfl) args w1
theorem cf33 (args : Array Value) (w1 : World) : (callFunc 33 args).run Try.prog w1 = .ok (.enter 33 args) w1 := enters Try.func33 (by kernel_rfl) (by kernel_rfl) args w1
theorem cf30 (args : Array Value) (w1 : World) : (callFunc 30 args).run Try.prog w1 = .ok (.enter 30 args) w1 := enters Try.func30 (by kernel_rfl) (by kernel_rfl) args w1
theorem ret_int {k : IntKind} {a b : Int} (h : a = b) : Ending.returned (.int k a) = .returned (.int k b) := by rw [h]

set_option maxHeartbeats 400000 in
theorem least1 (a b : Int) (w : World) : RetB Try.prog 46 #[.int .i64 a, .int .i64 b] w (.int .i64 (min a b)) := by
  unfold RetB
  go_enter Try.func46, Try.ntmps46
  go_wp2
  all_goals (go_ret; exact ⟨ret_int (by omega), Below.refl _ _⟩)
set_option maxHeartbeats 400000 in
theorem most1 (a b : Int) (w : World) : RetB Try.prog 47 #[.int .i64 a, .int .i64 b] w (.int .i64 (max a b)) := by
  unfold RetB
  go_enter Try.func47, Try.ntmps47
  go_wp2
  all_goals (go_ret; exact ⟨ret_int (by omega), Below.refl _ _⟩)
set_option maxHeartbeats 400000 in
theorem growl (a r : Int) (p : Addr) (w : World) (hc : w.cell? p = some (.int .i64 r)) (ha : okN a) (h0 : 0 ≤ r) (h1 : r ≤ 268435456) :
    RetB Try.prog 52 #[.int .i64 a, .int .i64 268435456, .pointer (some p)] w (.int .i64 (down a r)) := by
  obtain ⟨a1, a2⟩ := ha
  have H := Lib.hid (show down a r = max (a - r) (-268435456) from rfl)
  unfold RetB
  go_enter Try.func52, Try.ntmps52
  go_wp2
  all_goals (go_ret; exact ⟨ret_int (by rw [H.out]; omega), Below.refl _ _⟩)
set_option maxHeartbeats 400000 in
theorem growh (a r : Int) (p : Addr) (w : World) (hc : w.cell? p = some (.int .i64 r)) (ha : okN a) (h0 : 0 ≤ r) (h1 : r ≤ 268435456) :
    RetB Try.prog 53 #[.int .i64 a, .int .i64 268435456, .pointer (some p)] w (.int .i64 (up a r)) := by
  obtain ⟨a1, a2⟩ := ha
  have H := Lib.hid (show up a r = min (a + r) 268435456 from rfl)
  unfold RetB
  go_enter Try.func53, Try.ntmps53
  go_wp2
  all_goals (go_ret; exact ⟨ret_int (by rw [H.out]; omega), Below.refl _ _⟩)

set_option maxHeartbeats 1000000 in
theorem each (f : FuncId) (ca : Array Value) (hcall : ∀ args w1, (callFunc f args).run Try.prog w1 = .ok (.enter f args) w1) (p q r : Pt) (w : World)
    (h1 : ∀ w1, Below w.heap.size w w1 → RetB Try.prog f (#[.int .i64 p.x, .int .i64 q.x] ++ ca) w1 (.int .i64 r.x))
    (h2 : ∀ w1, Below w.heap.size w w1 → RetB Try.prog f (#[.int .i64 p.y, .int .i64 q.y] ++ ca) w1 (.int .i64 r.y))
    (h3 : ∀ w1, Below w.heap.size w w1 → RetB Try.prog f (#[.int .i64 p.z, .int .i64 q.z] ++ ca) w1 (.int .i64 r.z)) :
    RetB Try.prog 45 #[.agg #[.int .i64 p.x, .int .i64 p.y, .int .i64 p.z], .agg #[.int .i64 q.x, .int .i64 q.y, .int .i64 q.z], .func (.func f) #[] ca] w (.agg #[.int .i64 r.x, .int .i64 r.y, .int .i64 r.z]) := by
  have hW : Below w.heap.size w (((w.alloc (.cells #[.int .i64 p.x, .int .i64 p.y, .int .i64 p.z] 33)).alloc (.cells #[.int .i64 q.x, .int .i64 q.y, .int .i64 q.z] 33)).alloc (.cells #[.int .i64 0, .int .i64 0, .int .i64 0] 33)) := ((((Below.refl _ _).alloc (Nat.le_refl _) _).alloc (by simp) _).alloc (by simp; omega) _)
  unfold RetB
  go_enter Try.func45, Try.ntmps45
  go_wp2
  refine wp_region_ph [(19, .free [])] (by kernel_rfl) (by kernel_rfl) ?_
  refine Ph.belowd ?_
  simp only [List.drop_succ_cons, List.drop_zero, List.take_succ_cons, List.take_zero, Nat.reduceSub, Nat.sub_zero]
  iterate 5 (refine SeqO.val (v := ?_) (by rfl) (by rfl) (fun w1 hS => ?_) ?_; rotate_left; (· obtain ⟨hc, hcf⟩ := bcell hS; go_simp; try with_reducible rfl); simp only [Act.put, List.setIfInBounds_toArray, List.set_cons_zero, List.set_cons_succ])
  refine SeqO.callv (args := #[_, _] ++ ca) (by rfl) (by rfl) (by rfl) hcall (by simp [Act.eval]) (fun w1 hS => h1 _ (hW.trans (hS.mono (by simp; omega)))) ?_
  simp only [Act.put, List.setIfInBounds_toArray, List.set_cons_zero, List.set_cons_succ]
  iterate 5 (refine SeqO.val (v := ?_) (by rfl) (by rfl) (fun w1 hS => ?_) ?_; rotate_left; (· obtain ⟨hc, hcf⟩ := bcell hS; go_simp; try with_reducible rfl); simp only [Act.put, List.setIfInBounds_toArray, List.set_cons_zero, List.set_cons_succ])
  refine SeqO.callv (args := #[_, _] ++ ca) (by rfl) (by rfl) (by rfl) hcall (by simp [Act.eval]) (fun w1 hS => h2 _ (hW.trans (hS.mono (by simp; omega)))) ?_
  simp only [Act.put, List.setIfInBounds_toArray, List.set_cons_zero, List.set_cons_succ]
  iterate 5 (refine SeqO.val (v := ?_) (by rfl) (by rfl) (fun w1 hS => ?_) ?_; rotate_left; (· obtain ⟨hc, hcf⟩ := bcell hS; go_simp; try with_reducible rfl); simp only [Act.put, List.setIfInBounds_toArray, List.set_cons_zero, List.set_cons_succ])
  refine SeqO.callv (args := #[_, _] ++ ca) (by rfl) (by rfl) (by rfl) hcall (by simp [Act.eval]) (fun w1 hS => h3 _ (hW.trans (hS.mono (by simp; omega)))) ?_
  simp only [Act.put, List.setIfInBounds_toArray, List.set_cons_zero, List.set_cons_succ]
  iterate 1 (refine SeqO.val (v := ?_) (by rfl) (by rfl) (fun w1 hS => ?_) ?_; rotate_left; (· obtain ⟨hc, hcf⟩ := bcell hS; go_simp; try with_reducible rfl); simp only [Act.put, List.setIfInBounds_toArray, List.set_cons_zero, List.set_cons_succ])
  refine SeqO.nil0 fun w1 hS => ?_
  obtain ⟨hc, hcf⟩ := bcell hS
  refine Ph.last ?_
  simp only [List.drop_succ_cons, List.drop_zero]
  go_wp2
  exact bodyPost_ret (v := .agg #[.int .i64 r.x, .int .i64 r.y, .int .i64 r.z]) (by simp [results, Try.results45, go_sem, hc]) rfl ⟨rfl, (((hW.trans (hS.mono (by simp; omega))).setCell (by simp; omega) _).setCell (by simp; omega) _).setCell (by simp; omega) _⟩

set_option maxHeartbeats 400000 in
theorem least (p q : Pt) (w : World) : RetB Try.prog 31 #[.agg #[.int .i64 p.x, .int .i64 p.y, .int .i64 p.z], .agg #[.int .i64 q.x, .int .i64 q.y, .int .i64 q.z]] w (.agg #[.int .i64 (pmin p q).x, .int .i64 (pmin p q).y, .int .i64 (pmin p q).z]) := by
  have hW : Below w.heap.size w (((w.alloc (.cells #[.int .i64 p.x, .int .i64 p.y, .int .i64 p.z] 33)).alloc (.cells #[.int .i64 q.x, .int .i64 q.y, .int .i64 q.z] 33)).alloc (.cells #[.int .i64 0, .int .i64 0, .int .i64 0] 33)) := ((((Below.refl _ _).alloc (Nat.le_refl _) _).alloc (by simp) _).alloc (by simp; omega) _)
  unfold RetB
  go_enter Try.func31, Try.ntmps31
  go_wp2_with fail
  refine (each 46 #[] cf46 p q (pmin p q) _ (fun w1 _ => least1 _ _ w1) (fun w1 _ => least1 _ _ w1) (fun w1 _ => least1 _ _ w1)).mono ?_
  rintro e w1 ⟨rfl, hS⟩
  obtain ⟨hc, hcf⟩ := bcell hS
  go_wp2
  exact bodyPost_ret (v := .agg #[.int .i64 (pmin p q).x, .int .i64 (pmin p q).y, .int .i64 (pmin p q).z]) (by simp [results, Try.results31, go_sem, *]) rfl ⟨rfl, (((hW.trans (hS.mono (by simp; omega))).setCell (by first | omega | (simp; done) | (simp; omega)) _).setCell (by first | omega | (simp; done) | (simp; omega)) _).setCell (by first | omega | (simp; done) | (simp; omega)) _⟩
set_option maxHeartbeats 400000 in
theorem most (p q : Pt) (w : World) : RetB Try.prog 33 #[.agg #[.int .i64 p.x, .int .i64 p.y, .int .i64 p.z], .agg #[.int .i64 q.x, .int .i64 q.y, .int .i64 q.z]] w (.agg #[.int .i64 (pmax p q).x, .int .i64 (pmax p q).y, .int .i64 (pmax p q).z]) := by
  have hW : Below w.heap.size w (((w.alloc (.cells #[.int .i64 p.x, .int .i64 p.y, .int .i64 p.z] 33)).alloc (.cells #[.int .i64 q.x, .int .i64 q.y, .int .i64 q.z] 33)).alloc (.cells #[.int .i64 0, .int .i64 0, .int .i64 0] 33)) := ((((Below.refl _ _).alloc (Nat.le_refl _) _).alloc (by simp) _).alloc (by simp; omega) _)
  unfold RetB
  go_enter Try.func33, Try.ntmps33
  go_wp2_with fail
  refine (each 47 #[] cf47 p q (pmax p q) _ (fun w1 _ => most1 _ _ w1) (fun w1 _ => most1 _ _ w1) (fun w1 _ => most1 _ _ w1)).mono ?_
  rintro e w1 ⟨rfl, hS⟩
  obtain ⟨hc, hcf⟩ := bcell hS
  go_wp2
  exact bodyPost_ret (v := .agg #[.int .i64 (pmax p q).x, .int .i64 (pmax p q).y, .int .i64 (pmax p q).z]) (by simp [results, Try.results33, go_sem, *]) rfl ⟨rfl, (((hW.trans (hS.mono (by simp; omega))).setCell (by first | omega | (simp; done) | (simp; omega)) _).setCell (by first | omega | (simp; done) | (simp; omega)) _).setCell (by first | omega | (simp; done) | (simp; omega)) _⟩

theorem okN_lo {n : Int} (h : okN n) : decide (n < -268435456) = false := decide_eq_false (by unfold okN at h; omega)
theorem okN_hi {n : Int} (h : okN n) : decide (268435456 < n) = false := decide_eq_false (by unfold okN at h; omega)
theorem okN_no {n : Int} (h : ¬ okN n) : decide (n < -268435456) = true ∨ (decide (n < -268435456) = false ∧ decide (268435456 < n) = true) := by
  unfold okN at h
  by_cases h1 : n < -268435456
  · exact .inl (decide_eq_true h1)
  · exact .inr ⟨decide_eq_false h1, decide_eq_true (by omega)⟩

set_option maxHeartbeats 1000000 in
theorem gcheck_ok (p : Pt) (w : World) (h : p.ok) : RetB Try.prog 30 #[.agg #[.int .i64 p.x, .int .i64 p.y, .int .i64 p.z]] w (.int .i64 0) := by
  obtain ⟨hx, hy, hz⟩ := h
  have a1 := okN_lo hx; have a2 := okN_hi hx; have b1 := okN_lo hy; have b2 := okN_hi hy; have c1 := okN_lo hz; have c2 := okN_hi hz
  clear hx hy hz
  have i0 : ∀ w, (Instr.index 81 (.agg #[.int .i64 p.x, .int .i64 p.y, .int .i64 p.z]) (.int .i64 0)).run Try.prog w = .ok (.int .i64 p.x) w := fun _ => by kernel_rfl
  have i1 : ∀ w, (Instr.index 81 (.agg #[.int .i64 p.x, .int .i64 p.y, .int .i64 p.z]) (.int .i64 1)).run Try.prog w = .ok (.int .i64 p.y) w := fun _ => by kernel_rfl
  have i2 : ∀ w, (Instr.index 81 (.agg #[.int .i64 p.x, .int .i64 p.y, .int .i64 p.z]) (.int .i64 2)).run Try.prog w = .ok (.int .i64 p.z) w := fun _ => by kernel_rfl
  unfold RetB
  go_enter Try.func30, Try.ntmps30
  go_wp2
  refine wp_loop_rounds 4 ?_
  rw [rounds_succ]; go_wp2
  rw [rounds_succ]; go_wp2
  rw [rounds_succ]; go_wp2
  rw [rounds_succ]; go_wp2
  go_ret
  exact ⟨rfl, (Below.refl _ _).alloc (Nat.le_refl _) _⟩
set_option maxHeartbeats 1000000 in
theorem gcheck_no (p : Pt) (w : World) (h : ¬ p.ok) : RetB Try.prog 30 #[.agg #[.int .i64 p.x, .int .i64 p.y, .int .i64 p.z]] w (.int .i64 7) := by
  have i0 : ∀ w, (Instr.index 81 (.agg #[.int .i64 p.x, .int .i64 p.y, .int .i64 p.z]) (.int .i64 0)).run Try.prog w = .ok (.int .i64 p.x) w := fun _ => by kernel_rfl
  have i1 : ∀ w, (Instr.index 81 (.agg #[.int .i64 p.x, .int .i64 p.y, .int .i64 p.z]) (.int .i64 1)).run Try.prog w = .ok (.int .i64 p.y) w := fun _ => by kernel_rfl
  have i2 : ∀ w, (Instr.index 81 (.agg #[.int .i64 p.x, .int .i64 p.y, .int .i64 p.z]) (.int .i64 2)).run Try.prog w = .ok (.int .i64 p.z) w := fun _ => by kernel_rfl
  unfold Pt.ok at h
  unfold RetB
  by_cases hx : okN p.x
  · have a1 := okN_lo hx; have a2 := okN_hi hx
    by_cases hy : okN p.y
    · have b1 := okN_lo hy; have b2 := okN_hi hy
      have hz : ¬ okN p.z := fun hz => h ⟨hx, hy, hz⟩
      clear h hx hy
      rcases okN_no hz with h1 | ⟨h1, h1'⟩
      all_goals
        clear hz
        go_enter Try.func30, Try.ntmps30
        go_wp2
        refine wp_loop_rounds 4 ?_
        rw [rounds_succ]; go_wp2
        rw [rounds_succ]; go_wp2
        rw [rounds_succ]; go_wp2
        go_ret
        exact ⟨rfl, (Below.refl _ _).alloc (Nat.le_refl _) _⟩
    · clear h hx
      rcases okN_no hy with h1 | ⟨h1, h1'⟩
      all_goals
        clear hy
        go_enter Try.func30, Try.ntmps30
        go_wp2
        refine wp_loop_rounds 4 ?_
        rw [rounds_succ]; go_wp2
        rw [rounds_succ]; go_wp2
        go_ret
        exact ⟨rfl, (Below.refl _ _).alloc (Nat.le_refl _) _⟩
  · clear h
    rcases okN_no hx with h1 | ⟨h1, h1'⟩
    all_goals
      clear hx
      go_enter Try.func30, Try.ntmps30
      go_wp2
      refine wp_loop_rounds 4 ?_
      rw [rounds_succ]; go_wp2
      go_ret
      exact ⟨rfl, (Below.refl _ _).alloc (Nat.le_refl _) _⟩
end Go.Proofs.Ytbcjnckejkjfeaa
