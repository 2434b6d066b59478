/- What the functions of bounds answer: their walks. No condition. What the functions of bounds answer: their walks, second part. No condition. What the functions of bounds answer: their walks, third part. No condition. What the functions of bounds answer: their walks, fourth part. No condition. What the functions of bounds answer: their walks, fifth part. No condition. -/
import Derived.Test.YtbcjnckejkjfeaaGreatProg
import Derived.Test.YtbcjnckejkjfeaaGreatQab
import Derived.WalkKit
import Derived.WalkSpells
import Derived.WalkLawsBesides
import Derived.Test.YtbcjnckejkjfeaaGreatQaa
import Derived.Lib.Hide
namespace Go.Proofs.YtbcjnckejkjfeaaGreat
set_option linter.unusedVariables false
set_option linter.unusedSimpArgs false
open Go.RowKit Go.NP
theorem cf85 (args : Array Value) (w1 : World) : (callFunc 85 args).run Tryz.prog w1 = .ok (.enter 85 args) w1 := enters Tryz.func85 (by kernel_rfl) (by kernel_rfl) args w1
theorem cf84 (args : Array Value) (w1 : World) : (callFunc 84 args).run Tryz.prog w1 = .ok (.enter 84 args) w1 := enters Tryz.func84 (by kernel_rfl) (by kernel_rfl) args w1
theorem cf56 (args : Array Value) (w1 : World) : (callFunc 56 args).run Tryz.prog w1 = .ok (.enter 56 args) w1 := enters Tryz.func56 (by kernel_rfl) (by kernel_rfl) args w1
theorem cf57 (args : Array Value) (w1 : World) : (callFunc 57 args).run Tryz.prog w1 = .ok (.enter 57 args) w1 := enters Tryz.func57 (by kernel_rfl) (by kernel_rfl) args w1
theorem cf55 (args : Array Value) (w1 : World) : (callFunc 55 args).run Tryz.prog w1 = .ok (.enter 55 args) w1 := enters Tryz.func55 (by kernel_rfl) (by kernel_rfl) args w1
theorem cf65 (args : Array Value) (w1 : World) : (callFunc 65 args).run Tryz.prog w1 = .ok (.enter 65 args) w1 := enters Tryz.func65 (by kernel_rfl) (by kernel_rfl) args w1
theorem cf64 (args : Array Value) (w1 : World) : (callFunc 64 args).run Tryz.prog w1 = .ok (.enter 64 args) w1 := enters Tryz.func64 (by kernel_rfl) (by kernel_rfl) args w1
theorem cf45 (args : Array Value) (w1 : World) : (callFunc 45 args).run Tryz.prog w1 = .ok (.enter 45 args) w1 := enters Tryz.func45 (by kernel_rfl) (by kernel_rfl) args w1
theorem ret_int {k : IntKind} {a b : Int} (h : a = b) : Ending.returned (.int k a) = .returned (.int k b) := by rw [h]

set_option maxHeartbeats 400000 in
theorem least1 (a b : Int) (w : World) : RetB Tryz.prog 85 #[.int .i64 a, .int .i64 b] w (.int .i64 (min a b)) := by
  unfold RetB
  go_enter Tryz.func85, Tryz.ntmps85
  go_wp2
  all_goals (go_ret; exact ⟨ret_int (by omega), Below.refl _ _⟩)
set_option maxHeartbeats 400000 in
theorem most1 (a b : Int) (w : World) : RetB Tryz.prog 84 #[.int .i64 a, .int .i64 b] w (.int .i64 (max a b)) := by
  unfold RetB
  go_enter Tryz.func84, Tryz.ntmps84
  go_wp2
  all_goals (go_ret; exact ⟨ret_int (by omega), Below.refl _ _⟩)
set_option maxHeartbeats 400000 in
theorem growl (a r : Int) (p : Addr) (w : World) (hc : w.cell? p = some (.int .i64 r)) (ha : okN a) (h0 : 0 ≤ r) (h1 : r ≤ 268435456) :
    RetB Tryz.prog 56 #[.int .i64 a, .int .i64 268435456, .pointer (some p)] w (.int .i64 (down a r)) := by
  obtain ⟨a1, a2⟩ := ha
  have H := Lib.hid (show down a r = max (a - r) (-268435456) from rfl)
  unfold RetB
  go_enter Tryz.func56, Tryz.ntmps56
  go_wp2
  all_goals (go_ret; exact ⟨ret_int (by rw [H.out]; omega), Below.refl _ _⟩)
set_option maxHeartbeats 400000 in
theorem growh (a r : Int) (p : Addr) (w : World) (hc : w.cell? p = some (.int .i64 r)) (ha : okN a) (h0 : 0 ≤ r) (h1 : r ≤ 268435456) :
    RetB Tryz.prog 57 #[.int .i64 a, .int .i64 268435456, .pointer (some p)] w (.int .i64 (up a r)) := by
  obtain ⟨a1, a2⟩ := ha
  have H := Lib.hid (show up a r = min (a + r) 268435456 from rfl)
  unfold RetB
  go_enter Tryz.func57, Tryz.ntmps57
  go_wp2
  all_goals (go_ret; exact ⟨ret_int (by rw [H.out]; omega), Below.refl _ _⟩)

set_option maxHeartbeats 1000000 in
theorem each (f : FuncId) (ca : Array Value) (hcall : ∀ args w1, (callFunc f args).run Tryz.prog w1 = .ok (.enter f args) w1) (p q r : Pt) (w : World)
    (h1 : ∀ w1, Below w.heap.size w w1 → RetB Tryz.prog f (#[.int .i64 p.x, .int .i64 q.x] ++ ca) w1 (.int .i64 r.x))
    (h2 : ∀ w1, Below w.heap.size w w1 → RetB Tryz.prog f (#[.int .i64 p.y, .int .i64 q.y] ++ ca) w1 (.int .i64 r.y))
    (h3 : ∀ w1, Below w.heap.size w w1 → RetB Tryz.prog f (#[.int .i64 p.z, .int .i64 q.z] ++ ca) w1 (.int .i64 r.z)) :
    RetB Tryz.prog 55 #[.agg #[.int .i64 p.x, .int .i64 p.y, .int .i64 p.z], .agg #[.int .i64 q.x, .int .i64 q.y, .int .i64 q.z], .func (.func f) #[] ca] w (.agg #[.int .i64 r.x, .int .i64 r.y, .int .i64 r.z]) := by
  have hW : Below w.heap.size w (((w.alloc (.cells #[.int .i64 p.x, .int .i64 p.y, .int .i64 p.z] 36)).alloc (.cells #[.int .i64 q.x, .int .i64 q.y, .int .i64 q.z] 36)).alloc (.cells #[.int .i64 0, .int .i64 0, .int .i64 0] 36)) := ((((Below.refl _ _).alloc (Nat.le_refl _) _).alloc (by simp) _).alloc (by simp; omega) _)
  unfold RetB
  go_enter Tryz.func55, Tryz.ntmps55
  go_wp2
  refine wp_region_ph [(19, .free [])] (by kernel_rfl) (by kernel_rfl) ?_
  refine Ph.belowd ?_
  simp only [List.drop_succ_cons, List.drop_zero, List.take_succ_cons, List.take_zero, Nat.reduceSub, Nat.sub_zero]
  iterate 5 (refine SeqO.val (v := ?_) (by rfl) (by rfl) (fun w1 hS => ?_) ?_; rotate_left; (· obtain ⟨hc, hcf⟩ := bcell hS; go_simp; try with_reducible rfl); simp only [Act.put, List.setIfInBounds_toArray, List.set_cons_zero, List.set_cons_succ])
  refine SeqO.callv (args := #[_, _] ++ ca) (by rfl) (by rfl) (by rfl) hcall (by simp [Act.eval]) (fun w1 hS => h1 _ (hW.trans (hS.mono (by simp; omega)))) ?_
  simp only [Act.put, List.setIfInBounds_toArray, List.set_cons_zero, List.set_cons_succ]
  iterate 5 (refine SeqO.val (v := ?_) (by rfl) (by rfl) (fun w1 hS => ?_) ?_; rotate_left; (· obtain ⟨hc, hcf⟩ := bcell hS; go_simp; try with_reducible rfl); simp only [Act.put, List.setIfInBounds_toArray, List.set_cons_zero, List.set_cons_succ])
  refine SeqO.callv (args := #[_, _] ++ ca) (by rfl) (by rfl) (by rfl) hcall (by simp [Act.eval]) (fun w1 hS => h2 _ (hW.trans (hS.mono (by simp; omega)))) ?_
  simp only [Act.put, List.setIfInBounds_toArray, List.set_cons_zero, List.set_cons_succ]
  iterate 5 (refine SeqO.val (v := ?_) (by rfl) (by rfl) (fun w1 hS => ?_) ?_; rotate_left; (· obtain ⟨hc, hcf⟩ := bcell hS; go_simp; try with_reducible rfl); simp only [Act.put, List.setIfInBounds_toArray, List.set_cons_zero, List.set_cons_succ])
  refine SeqO.callv (args := #[_, _] ++ ca) (by rfl) (by rfl) (by rfl) hcall (by simp [Act.eval]) (fun w1 hS => h3 _ (hW.trans (hS.mono (by simp; omega)))) ?_
  simp only [Act.put, List.setIfInBounds_toArray, List.set_cons_zero, List.set_cons_succ]
  iterate 1 (refine SeqO.val (v := ?_) (by rfl) (by rfl) (fun w1 hS => ?_) ?_; rotate_left; (· obtain ⟨hc, hcf⟩ := bcell hS; go_simp; try with_reducible rfl); simp only [Act.put, List.setIfInBounds_toArray, List.set_cons_zero, List.set_cons_succ])
  refine SeqO.nil0 fun w1 hS => ?_
  obtain ⟨hc, hcf⟩ := bcell hS
  refine Ph.last ?_
  simp only [List.drop_succ_cons, List.drop_zero]
  go_wp2
  exact bodyPost_ret (v := .agg #[.int .i64 r.x, .int .i64 r.y, .int .i64 r.z]) (by simp [results, Tryz.results55, go_sem, hc]) rfl ⟨rfl, (((hW.trans (hS.mono (by simp; omega))).setCell (by simp; omega) _).setCell (by simp; omega) _).setCell (by simp; omega) _⟩

set_option maxHeartbeats 400000 in
theorem least (p q : Pt) (w : World) : RetB Tryz.prog 65 #[.agg #[.int .i64 p.x, .int .i64 p.y, .int .i64 p.z], .agg #[.int .i64 q.x, .int .i64 q.y, .int .i64 q.z]] w (.agg #[.int .i64 (pmin p q).x, .int .i64 (pmin p q).y, .int .i64 (pmin p q).z]) := by
  have hW : Below w.heap.size w (((w.alloc (.cells #[.int .i64 p.x, .int .i64 p.y, .int .i64 p.z] 36)).alloc (.cells #[.int .i64 q.x, .int .i64 q.y, .int .i64 q.z] 36)).alloc (.cells #[.int .i64 0, .int .i64 0, .int .i64 0] 36)) := ((((Below.refl _ _).alloc (Nat.le_refl _) _).alloc (by simp) _).alloc (by simp; omega) _)
  unfold RetB
  go_enter Tryz.func65, Tryz.ntmps65
  go_wp2_with fail
  refine (each 85 #[] cf85 p q (pmin p q) _ (fun w1 _ => least1 _ _ w1) (fun w1 _ => least1 _ _ w1) (fun w1 _ => least1 _ _ w1)).mono ?_
  rintro e w1 ⟨rfl, hS⟩
  obtain ⟨hc, hcf⟩ := bcell hS
  go_wp2
  exact bodyPost_ret (v := .agg #[.int .i64 (pmin p q).x, .int .i64 (pmin p q).y, .int .i64 (pmin p q).z]) (by simp [results, Tryz.results65, go_sem, *]) rfl ⟨rfl, (((hW.trans (hS.mono (by simp; omega))).setCell (by first | omega | (simp; done) | (simp; omega)) _).setCell (by first | omega | (simp; done) | (simp; omega)) _).setCell (by first | omega | (simp; done) | (simp; omega)) _⟩
set_option maxHeartbeats 400000 in
theorem most (p q : Pt) (w : World) : RetB Tryz.prog 64 #[.agg #[.int .i64 p.x, .int .i64 p.y, .int .i64 p.z], .agg #[.int .i64 q.x, .int .i64 q.y, .int .i64 q.z]] w (.agg #[.int .i64 (pmax p q).x, .int .i64 (pmax p q).y, .int .i64 (pmax p q).z]) := by
  have hW : Below w.heap.size w (((w.alloc (.cells #[.int .i64 p.x, .int .i64 p.y, .int .i64 p.z] 36)).alloc (.cells #[.int .i64 q.x, .int .i64 q.y, .int .i64 q.z] 36)).alloc (.cells #[.int .i64 0, .int .i64 0, .int .i64 0] 36)) := ((((Below.refl _ _).alloc (Nat.le_refl _) _).alloc (by simp) _).alloc (by simp; omega) _)
  unfold RetB
  go_enter Tryz.func64, Tryz.ntmps64
  go_wp2_with fail
  refine (each 84 #[] cf84 p q (pmax p q) _ (fun w1 _ => most1 _ _ w1) (fun w1 _ => most1 _ _ w1) (fun w1 _ => most1 _ _ w1)).mono ?_
  rintro e w1 ⟨rfl, hS⟩
  obtain ⟨hc, hcf⟩ := bcell hS
  go_wp2
  exact bodyPost_ret (v := .agg #[.int .i64 (pmax p q).x, .int .i64 (pmax p q).y, .int .i64 (pmax p q).z]) (by simp [results, Tryz.results64, go_sem, *]) rfl ⟨rfl, (((hW.trans (hS.mono (by simp; omega))).setCell (by first | omega | (simp; done) | (simp; omega)) _).setCell (by first | omega | (simp; done) | (simp; omega)) _).setCell (by first | omega | (simp; done) | (simp; omega)) _⟩

theorem okN_lo {n : Int} (h : okN n) : decide (n < -268435456) = false := decide_eq_false (by unfold okN at h; omega)
theorem okN_hi {n : Int} (h : okN n) : decide (268435456 < n) = false := decide_eq_false (by unfold okN at h; omega)
theorem okN_no {n : Int} (h : ¬ okN n) : decide (n < -268435456) = true ∨ (decide (n < -268435456) = false ∧ decide (268435456 < n) = true) := by
  unfold okN at h
  by_cases h1 : n < -268435456
  · exact .inl (decide_eq_true h1)
  · exact .inr ⟨decide_eq_false h1, decide_eq_true (by omega)⟩

set_option maxHeartbeats 1000000 in
theorem gcheck_ok (p : Pt) (w : World) (h : p.ok) : RetB Tryz.prog 45 #[.agg #[.int .i64 p.x, .int .i64 p.y, .int .i64 p.z]] w (.int .i64 0) := by
  obtain ⟨hx, hy, hz⟩ := h
  have a1 := okN_lo hx; have a2 := okN_hi hx; have b1 := okN_lo hy; have b2 := okN_hi hy; have c1 := okN_lo hz; have c2 := okN_hi hz
  clear hx hy hz
  have i0 : ∀ w, (Instr.index 104 (.agg #[.int .i64 p.x, .int .i64 p.y, .int .i64 p.z]) (.int .i64 0)).run Tryz.prog w = .ok (.int .i64 p.x) w := fun _ => by kernel_rfl
  have i1 : ∀ w, (Instr.index 104 (.agg #[.int .i64 p.x, .int .i64 p.y, .int .i64 p.z]) (.int .i64 1)).run Tryz.prog w = .ok (.int .i64 p.y) w := fun _ => by kernel_rfl
  have i2 : ∀ w, (Instr.index 104 (.agg #[.int .i64 p.x, .int .i64 p.y, .int .i64 p.z]) (.int .i64 2)).run Tryz.prog w = .ok (.int .i64 p.z) w := fun _ => by kernel_rfl
  unfold RetB
  go_enter Tryz.func45, Tryz.ntmps45
  go_wp2
  refine wp_loop_rounds 4 ?_
  rw [rounds_succ]; go_wp2
  rw [rounds_succ]; go_wp2
  rw [rounds_succ]; go_wp2
  rw [rounds_succ]; go_wp2
  go_ret
  exact ⟨rfl, (Below.refl _ _).alloc (Nat.le_refl _) _⟩
set_option maxHeartbeats 1000000 in
theorem gcheck_no (p : Pt) (w : World) (h : ¬ p.ok) : RetB Tryz.prog 45 #[.agg #[.int .i64 p.x, .int .i64 p.y, .int .i64 p.z]] w (.int .i64 7) := by
  have i0 : ∀ w, (Instr.index 104 (.agg #[.int .i64 p.x, .int .i64 p.y, .int .i64 p.z]) (.int .i64 0)).run Tryz.prog w = .ok (.int .i64 p.x) w := fun _ => by kernel_rfl
  have i1 : ∀ w, (Instr.index 104 (.agg #[.int .i64 p.x, .int .i64 p.y, .int .i64 p.z]) (.int .i64 1)).run Tryz.prog w = .ok (.int .i64 p.y) w := fun _ => by kernel_rfl
  have i2 : ∀ w, (Instr.index 104 (.agg #[.int .i64 p.x, .int .i64 p.y, .int .i64 p.z]) (.int .i64 2)).run Tryz.prog w = .ok (.int .i64 p.z) w := fun _ => by kernel_rfl
  unfold Pt.ok at h
  unfold RetB
  by_cases hx : okN p.x
  · have a1 := okN_lo hx; have a2 := okN_hi hx
    by_cases hy : okN p.y
    · have b1 := okN_lo hy; have b2 := okN_hi hy
      have hz : ¬ okN p.z := fun hz => h ⟨hx, hy, hz⟩
      clear h hx hy
      rcases okN_no hz with h1 | ⟨h1, h1'⟩
      all_goals
        clear hz
        go_enter Tryz.func45, Tryz.ntmps45
        go_wp2
        refine wp_loop_rounds 4 ?_
        rw [rounds_succ]; go_wp2
        rw [rounds_succ]; go_wp2
        rw [rounds_succ]; go_wp2
        go_ret
        exact ⟨rfl, (Below.refl _ _).alloc (Nat.le_refl _) _⟩
    · clear h hx
      rcases okN_no hy with h1 | ⟨h1, h1'⟩
      all_goals
        clear hy
        go_enter Tryz.func45, Tryz.ntmps45
        go_wp2
        refine wp_loop_rounds 4 ?_
        rw [rounds_succ]; go_wp2
        rw [rounds_succ]; go_wp2
        go_ret
        exact ⟨rfl, (Below.refl _ _).alloc (Nat.le_refl _) _⟩
  · clear h
    rcases okN_no hx with h1 | ⟨h1, h1'⟩
    all_goals
      clear hx
      go_enter Tryz.func45, Tryz.ntmps45
      go_wp2
      refine wp_loop_rounds 4 ?_
      rw [rounds_succ]; go_wp2
      go_ret
      exact ⟨rfl, (Below.refl _ _).alloc (Nat.le_refl _) _⟩
end Go.Proofs.YtbcjnckejkjfeaaGreat
namespace Go.Proofs.YtbcjnckejkjfeaaGreat
set_option linter.unusedVariables false
set_option linter.unusedSimpArgs false
open Go.RowKit Go.NP
theorem cf53 (args : Array Value) (w1 : World) : (callFunc 53 args).run Tryz.prog w1 = .ok (.enter 53 args) w1 := enters Tryz.func53 (by kernel_rfl) (by kernel_rfl) args w1
theorem cf54 (args : Array Value) (w1 : World) : (callFunc 54 args).run Tryz.prog w1 = .ok (.enter 54 args) w1 := enters Tryz.func54 (by kernel_rfl) (by kernel_rfl) args w1
theorem pmin_le {p q : Pt} (h : p.le q) : pmin p q = p := by
  obtain ⟨h1, h2, h3⟩ := h
  apply Pt.ext' <;> simp [pmin] <;> omega
theorem pmin_nle {p q : Pt} (h : ¬ p.le q) : (¬ (pmin p q).x = p.x) ∨ ((pmin p q).x = p.x ∧ ¬ (pmin p q).y = p.y) ∨ ((pmin p q).x = p.x ∧ (pmin p q).y = p.y ∧ ¬ (pmin p q).z = p.z) := by
  unfold Pt.le at h
  simp only [pmin]
  omega
set_option maxHeartbeats 1000000 in
theorem bcheck_ok (b : Bd) (w : World) (h : b.ok) : RetB Tryz.prog 53 #[.agg #[.int .i64 b.lo.x, .int .i64 b.lo.y, .int .i64 b.lo.z, .int .i64 b.hi.x, .int .i64 b.hi.y, .int .i64 b.hi.z]] w (.int .i64 0) := by
  obtain ⟨h1, h2, h3⟩ := h
  unfold RetB
  go_enter Tryz.func53, Tryz.ntmps53
  go_wp2
  refine wp_region_ph [(20, .free [])] (by kernel_rfl) (by kernel_rfl) ?_
  refine Ph.belowd ?_
  simp only [List.drop_succ_cons, List.drop_zero, List.take_succ_cons, List.take_zero, Nat.reduceSub, Nat.sub_zero]
  iterate 2 (refine SeqO.val (v := ?_) (by rfl) (by rfl) (fun w1 hS => ?_) ?_; rotate_left; (· obtain ⟨hc, hcf⟩ := bcell hS; go_simp; try with_reducible rfl); simp only [Act.put, List.setIfInBounds_toArray, List.set_cons_zero, List.set_cons_succ])
  refine SeqO.callv (by rfl) (by rfl) (by rfl) cf45 (by simp [Act.eval]) (fun w1 hS => gcheck_ok b.lo w1 h1) ?_
  simp only [Act.put, List.setIfInBounds_toArray, List.set_cons_zero, List.set_cons_succ]
  iterate 4 (refine SeqO.val (v := ?_) (by rfl) (by rfl) (fun w1 hS => ?_) ?_; rotate_left; (· obtain ⟨hc, hcf⟩ := bcell hS; go_simp; try with_reducible rfl); simp only [Act.put, List.setIfInBounds_toArray, List.set_cons_zero, List.set_cons_succ])
  refine SeqO.callv (by rfl) (by rfl) (by rfl) cf45 (by simp [Act.eval]) (fun w1 hS => gcheck_ok b.hi w1 h2) ?_
  simp only [Act.put, List.setIfInBounds_toArray, List.set_cons_zero, List.set_cons_succ]
  iterate 3 (refine SeqO.val (v := ?_) (by rfl) (by rfl) (fun w1 hS => ?_) ?_; rotate_left; (· obtain ⟨hc, hcf⟩ := bcell hS; go_simp; try with_reducible rfl); simp only [Act.put, List.setIfInBounds_toArray, List.set_cons_zero, List.set_cons_succ])
  iterate 4 (refine SeqO.val (v := ?_) (by rfl) (by rfl) (fun w1 hS => ?_) ?_; rotate_left; (· obtain ⟨hc, hcf⟩ := bcell hS; go_simp; try with_reducible rfl); simp only [Act.put, List.setIfInBounds_toArray, List.set_cons_zero, List.set_cons_succ])
  refine SeqO.callv (by rfl) (by rfl) (by rfl) cf65 (by simp [Act.eval]) (fun w1 hS => (least b.lo b.hi w1).eq (by rw [pmin_le h3])) ?_
  simp only [Act.put, List.setIfInBounds_toArray, List.set_cons_zero, List.set_cons_succ]
  iterate 4 (refine SeqO.val (v := ?_) (by rfl) (by rfl) (fun w1 hS => ?_) ?_; rotate_left; (· obtain ⟨hc, hcf⟩ := bcell hS; go_simp; try with_reducible rfl); simp only [Act.put, List.setIfInBounds_toArray, List.set_cons_zero, List.set_cons_succ])
  refine SeqO.nil0 fun w1 hS => ?_
  obtain ⟨hc, hcf⟩ := bcell hS
  refine Ph.last ?_
  simp only [List.drop_succ_cons, List.drop_zero]
  go_wp2
  go_ret
  exact ⟨rfl, ((Below.refl _ _).alloc (Nat.le_refl _) _).trans (hS.mono (by simp))⟩
set_option maxHeartbeats 1000000 in
theorem bcheck_no (b : Bd) (w : World) (h : ¬ b.ok) : RetB Tryz.prog 53 #[.agg #[.int .i64 b.lo.x, .int .i64 b.lo.y, .int .i64 b.lo.z, .int .i64 b.hi.x, .int .i64 b.hi.y, .int .i64 b.hi.z]] w (.int .i64 7) := by
  unfold Bd.ok at h
  unfold RetB
  by_cases h1 : b.lo.ok
  · by_cases h2 : b.hi.ok
    · have h3 : ¬ b.lo.le b.hi := fun h3 => h ⟨h1, h2, h3⟩
      clear h
      rcases pmin_nle h3 with h4 | ⟨h5, h4⟩ | ⟨h5, h6, h4⟩
      all_goals
        go_enter Tryz.func53, Tryz.ntmps53
        go_wp2
        refine wp_region_ph [(20, .free [])] (by kernel_rfl) (by kernel_rfl) ?_
        refine Ph.belowd ?_
        simp only [List.drop_succ_cons, List.drop_zero, List.take_succ_cons, List.take_zero, Nat.reduceSub, Nat.sub_zero]
        iterate 2 (refine SeqO.val (v := ?_) (by rfl) (by rfl) (fun w1 hS => ?_) ?_; rotate_left; (· obtain ⟨hc, hcf⟩ := bcell hS; go_simp; try with_reducible rfl); simp only [Act.put, List.setIfInBounds_toArray, List.set_cons_zero, List.set_cons_succ])
        refine SeqO.callv (by rfl) (by rfl) (by rfl) cf45 (by simp [Act.eval]) (fun w1 hS => gcheck_ok b.lo w1 h1) ?_
        simp only [Act.put, List.setIfInBounds_toArray, List.set_cons_zero, List.set_cons_succ]
        iterate 4 (refine SeqO.val (v := ?_) (by rfl) (by rfl) (fun w1 hS => ?_) ?_; rotate_left; (· obtain ⟨hc, hcf⟩ := bcell hS; go_simp; try with_reducible rfl); simp only [Act.put, List.setIfInBounds_toArray, List.set_cons_zero, List.set_cons_succ])
        refine SeqO.callv (by rfl) (by rfl) (by rfl) cf45 (by simp [Act.eval]) (fun w1 hS => gcheck_ok b.hi w1 h2) ?_
        simp only [Act.put, List.setIfInBounds_toArray, List.set_cons_zero, List.set_cons_succ]
        iterate 3 (refine SeqO.val (v := ?_) (by rfl) (by rfl) (fun w1 hS => ?_) ?_; rotate_left; (· obtain ⟨hc, hcf⟩ := bcell hS; go_simp; try with_reducible rfl); simp only [Act.put, List.setIfInBounds_toArray, List.set_cons_zero, List.set_cons_succ])
        iterate 4 (refine SeqO.val (v := ?_) (by rfl) (by rfl) (fun w1 hS => ?_) ?_; rotate_left; (· obtain ⟨hc, hcf⟩ := bcell hS; go_simp; try with_reducible rfl); simp only [Act.put, List.setIfInBounds_toArray, List.set_cons_zero, List.set_cons_succ])
        refine SeqO.callv (by rfl) (by rfl) (by rfl) cf65 (by simp [Act.eval]) (fun w1 hS => least b.lo b.hi w1) ?_
        simp only [Act.put, List.setIfInBounds_toArray, List.set_cons_zero, List.set_cons_succ]
        iterate 4 (refine SeqO.val (v := ?_) (by rfl) (by rfl) (fun w1 hS => ?_) ?_; rotate_left; (· obtain ⟨hc, hcf⟩ := bcell hS; go_simp; try with_reducible rfl); simp only [Act.put, List.setIfInBounds_toArray, List.set_cons_zero, List.set_cons_succ])
        refine SeqO.nil0 fun w1 hS => ?_
        obtain ⟨hc, hcf⟩ := bcell hS
        refine Ph.last ?_
        simp only [List.drop_succ_cons, List.drop_zero]
        go_wp2
        go_ret
        exact ⟨rfl, ((Below.refl _ _).alloc (Nat.le_refl _) _).trans (hS.mono (by simp))⟩
    · clear h
      go_enter Tryz.func53, Tryz.ntmps53
      go_wp2
      refine wp_region_ph [(20, .free [])] (by kernel_rfl) (by kernel_rfl) ?_
      refine Ph.belowd ?_
      simp only [List.drop_succ_cons, List.drop_zero, List.take_succ_cons, List.take_zero, Nat.reduceSub, Nat.sub_zero]
      iterate 2 (refine SeqO.val (v := ?_) (by rfl) (by rfl) (fun w1 hS => ?_) ?_; rotate_left; (· obtain ⟨hc, hcf⟩ := bcell hS; go_simp; try with_reducible rfl); simp only [Act.put, List.setIfInBounds_toArray, List.set_cons_zero, List.set_cons_succ])
      refine SeqO.callv (by rfl) (by rfl) (by rfl) cf45 (by simp [Act.eval]) (fun w1 hS => gcheck_ok b.lo w1 h1) ?_
      simp only [Act.put, List.setIfInBounds_toArray, List.set_cons_zero, List.set_cons_succ]
      iterate 4 (refine SeqO.val (v := ?_) (by rfl) (by rfl) (fun w1 hS => ?_) ?_; rotate_left; (· obtain ⟨hc, hcf⟩ := bcell hS; go_simp; try with_reducible rfl); simp only [Act.put, List.setIfInBounds_toArray, List.set_cons_zero, List.set_cons_succ])
      refine SeqO.callv (by rfl) (by rfl) (by rfl) cf45 (by simp [Act.eval]) (fun w1 hS => gcheck_no b.hi w1 h2) ?_
      simp only [Act.put, List.setIfInBounds_toArray, List.set_cons_zero, List.set_cons_succ]
      iterate 3 (refine SeqO.val (v := ?_) (by rfl) (by rfl) (fun w1 hS => ?_) ?_; rotate_left; (· obtain ⟨hc, hcf⟩ := bcell hS; go_simp; try with_reducible rfl); simp only [Act.put, List.setIfInBounds_toArray, List.set_cons_zero, List.set_cons_succ])
      iterate 8 (refine SeqO.skip (by rfl) (by rfl) ?_; simp only [Act.put, List.setIfInBounds_toArray, List.set_cons_zero, List.set_cons_succ])
      iterate 1 (refine SeqO.val (v := ?_) (by rfl) (by rfl) (fun w1 hS => ?_) ?_; rotate_left; (· obtain ⟨hc, hcf⟩ := bcell hS; go_simp; try with_reducible rfl); simp only [Act.put, List.setIfInBounds_toArray, List.set_cons_zero, List.set_cons_succ])
      refine SeqO.nil0 fun w1 hS => ?_
      obtain ⟨hc, hcf⟩ := bcell hS
      refine Ph.last ?_
      simp only [List.drop_succ_cons, List.drop_zero]
      go_wp2
      go_ret
      exact ⟨rfl, ((Below.refl _ _).alloc (Nat.le_refl _) _).trans (hS.mono (by simp))⟩
  · clear h
    go_enter Tryz.func53, Tryz.ntmps53
    go_wp2
    refine wp_region_ph [(20, .free [])] (by kernel_rfl) (by kernel_rfl) ?_
    refine Ph.belowd ?_
    simp only [List.drop_succ_cons, List.drop_zero, List.take_succ_cons, List.take_zero, Nat.reduceSub, Nat.sub_zero]
    iterate 2 (refine SeqO.val (v := ?_) (by rfl) (by rfl) (fun w1 hS => ?_) ?_; rotate_left; (· obtain ⟨hc, hcf⟩ := bcell hS; go_simp; try with_reducible rfl); simp only [Act.put, List.setIfInBounds_toArray, List.set_cons_zero, List.set_cons_succ])
    refine SeqO.callv (by rfl) (by rfl) (by rfl) cf45 (by simp [Act.eval]) (fun w1 hS => gcheck_no b.lo w1 h1) ?_
    simp only [Act.put, List.setIfInBounds_toArray, List.set_cons_zero, List.set_cons_succ]
    iterate 2 (refine SeqO.val (v := ?_) (by rfl) (by rfl) (fun w1 hS => ?_) ?_; rotate_left; (· obtain ⟨hc, hcf⟩ := bcell hS; go_simp; try with_reducible rfl); simp only [Act.put, List.setIfInBounds_toArray, List.set_cons_zero, List.set_cons_succ])
    iterate 4 (refine SeqO.skip (by rfl) (by rfl) ?_; simp only [Act.put, List.setIfInBounds_toArray, List.set_cons_zero, List.set_cons_succ])
    iterate 2 (refine SeqO.val (v := ?_) (by rfl) (by rfl) (fun w1 hS => ?_) ?_; rotate_left; (· obtain ⟨hc, hcf⟩ := bcell hS; go_simp; try with_reducible rfl); simp only [Act.put, List.setIfInBounds_toArray, List.set_cons_zero, List.set_cons_succ])
    iterate 8 (refine SeqO.skip (by rfl) (by rfl) ?_; simp only [Act.put, List.setIfInBounds_toArray, List.set_cons_zero, List.set_cons_succ])
    iterate 1 (refine SeqO.val (v := ?_) (by rfl) (by rfl) (fun w1 hS => ?_) ?_; rotate_left; (· obtain ⟨hc, hcf⟩ := bcell hS; go_simp; try with_reducible rfl); simp only [Act.put, List.setIfInBounds_toArray, List.set_cons_zero, List.set_cons_succ])
    refine SeqO.nil0 fun w1 hS => ?_
    obtain ⟨hc, hcf⟩ := bcell hS
    refine Ph.last ?_
    simp only [List.drop_succ_cons, List.drop_zero]
    go_wp2
    go_ret
    exact ⟨rfl, ((Below.refl _ _).alloc (Nat.le_refl _) _).trans (hS.mono (by simp))⟩

/-- A row of cells. -/
def At (w : World) (b : Nat) (l : List Value) : Prop := ∀ j v, l[j]? = some v → w.cell? ⟨b, j, none⟩ = some v
theorem at_alloc {w : World} {l : List Value} {T : TypeId} : At (w.alloc (.cells l.toArray T)) w.heap.size l := by
  intro j v h
  rw [World.cell?_alloc_new]
  simpa using h
theorem at_new {w : World} {l : List Value} {T : TypeId} {n : Nat} (hn : n = w.heap.size) : At (w.alloc (.cells l.toArray T)) n l := hn ▸ at_alloc
theorem At.below {W w1 : World} {b : Nat} {l : List Value} (h : At W b l) (hb : b < W.heap.size) (hS : Below W.heap.size W w1) : At w1 b l := fun j v hj => by
  rw [(bcell hS).1 b j hb]; exact h j v hj
theorem At.alloc {W : World} {b : Nat} {l : List Value} (h : At W b l) (hb : b < W.heap.size) (o : Obj) : At (W.alloc o) b l := fun j v hj => by
  rw [World.cell?_alloc_past _ _ _ hb]; exact h j v hj
set_option maxHeartbeats 1000000 in
theorem may1_ok (a : Bd) (blk : Nat) (w : World) (hA : At w blk [.int .i64 a.lo.x, .int .i64 a.lo.y, .int .i64 a.lo.z, .int .i64 a.hi.x, .int .i64 a.hi.y, .int .i64 a.hi.z]) (h : a.ok) : RetB Tryz.prog 54 #[.slice (some ⟨blk, 0, none⟩) 1 1] w (.bool true) := by
  have a0 := hA (0 + 0) _ rfl; have a1 := hA (1 + 0) _ rfl; have a2 := hA (2 + 0) _ rfl; have a3 := hA (3 + 0) _ rfl; have a4 := hA (4 + 0) _ rfl; have a5 := hA (5 + 0) _ rfl
  clear hA
  unfold RetB
  go_enter Tryz.func54, Tryz.ntmps54
  go_wp2
  refine wp_loop_rounds 2 ?_
  rw [rounds_succ]; go_wp2_with fail
  refine (bcheck_ok a _ h).mono ?_
  rintro e w1 ⟨rfl, hS⟩
  go_wp2
  rw [rounds_succ]; go_wp2
  go_ret
  exact ⟨rfl, ((Below.refl _ _).alloc (Nat.le_refl _) _).trans (hS.mono (by simp))⟩
set_option maxHeartbeats 1000000 in
theorem may1_no (a : Bd) (blk : Nat) (w : World) (hA : At w blk [.int .i64 a.lo.x, .int .i64 a.lo.y, .int .i64 a.lo.z, .int .i64 a.hi.x, .int .i64 a.hi.y, .int .i64 a.hi.z]) (h : ¬ a.ok) : RetB Tryz.prog 54 #[.slice (some ⟨blk, 0, none⟩) 1 1] w (.bool false) := by
  have a0 := hA (0 + 0) _ rfl; have a1 := hA (1 + 0) _ rfl; have a2 := hA (2 + 0) _ rfl; have a3 := hA (3 + 0) _ rfl; have a4 := hA (4 + 0) _ rfl; have a5 := hA (5 + 0) _ rfl
  clear hA
  unfold RetB
  go_enter Tryz.func54, Tryz.ntmps54
  go_wp2
  refine wp_loop_rounds 2 ?_
  rw [rounds_succ]; go_wp2_with fail
  refine (bcheck_no a _ h).mono ?_
  rintro e w1 ⟨rfl, hS⟩
  go_wp2
  go_ret
  exact ⟨rfl, ((Below.refl _ _).alloc (Nat.le_refl _) _).trans (hS.mono (by simp))⟩
set_option maxHeartbeats 1000000 in
theorem may2_ok (a b : Bd) (blk : Nat) (w : World) (hb : blk < w.heap.size) (hA : At w blk [.int .i64 a.lo.x, .int .i64 a.lo.y, .int .i64 a.lo.z, .int .i64 a.hi.x, .int .i64 a.hi.y, .int .i64 a.hi.z, .int .i64 b.lo.x, .int .i64 b.lo.y, .int .i64 b.lo.z, .int .i64 b.hi.x, .int .i64 b.hi.y, .int .i64 b.hi.z]) (h : a.ok ∧ b.ok) : RetB Tryz.prog 54 #[.slice (some ⟨blk, 0, none⟩) 2 2] w (.bool true) := by
  obtain ⟨h, h'⟩ := h
  unfold RetB
  have a0 := hA (0 + 0) _ rfl; have a1 := hA (1 + 0) _ rfl; have a2 := hA (2 + 0) _ rfl; have a3 := hA (3 + 0) _ rfl; have a4 := hA (4 + 0) _ rfl; have a5 := hA (5 + 0) _ rfl
  have HA := Lib.hid hA
  clear hA
  go_enter Tryz.func54, Tryz.ntmps54
  go_wp2
  refine wp_loop_rounds 3 ?_
  rw [rounds_succ]; go_wp2_with fail
  refine (bcheck_ok a _ h).mono ?_
  rintro e w1 ⟨rfl, hS⟩
  clear a0 a1 a2 a3 a4 a5
  have HA1 := Lib.hid ((HA.out.alloc hb _).below (by simp; omega) hS)
  have hz : w.heap.size < w1.heap.size := by have := hS.size; simp at this; omega
  have a0 := HA1.out (0 + 6) _ rfl; have a1 := HA1.out (1 + 6) _ rfl; have a2 := HA1.out (2 + 6) _ rfl; have a3 := HA1.out (3 + 6) _ rfl; have a4 := HA1.out (4 + 6) _ rfl; have a5 := HA1.out (5 + 6) _ rfl
  go_wp2
  rw [rounds_succ]; go_wp2_with fail
  refine (bcheck_ok b _ h').mono ?_
  rintro e w2 ⟨rfl, hS2⟩
  go_wp2
  rw [rounds_succ]; go_wp2
  go_ret
  exact ⟨rfl, ((((Below.refl _ _).alloc (Nat.le_refl _) _).trans (hS.mono (by simp))).alloc (by omega) _).trans (hS2.mono (by simp; omega))⟩
set_option maxHeartbeats 1000000 in
theorem may2_no (a b : Bd) (blk : Nat) (w : World) (hb : blk < w.heap.size) (hA : At w blk [.int .i64 a.lo.x, .int .i64 a.lo.y, .int .i64 a.lo.z, .int .i64 a.hi.x, .int .i64 a.hi.y, .int .i64 a.hi.z, .int .i64 b.lo.x, .int .i64 b.lo.y, .int .i64 b.lo.z, .int .i64 b.hi.x, .int .i64 b.hi.y, .int .i64 b.hi.z]) (h : ¬ (a.ok ∧ b.ok)) : RetB Tryz.prog 54 #[.slice (some ⟨blk, 0, none⟩) 2 2] w (.bool false) := by
  unfold RetB
  have a0 := hA (0 + 0) _ rfl; have a1 := hA (1 + 0) _ rfl; have a2 := hA (2 + 0) _ rfl; have a3 := hA (3 + 0) _ rfl; have a4 := hA (4 + 0) _ rfl; have a5 := hA (5 + 0) _ rfl
  have HA := Lib.hid hA
  clear hA
  by_cases ha : a.ok
  · have h' : ¬ b.ok := fun hb => h ⟨ha, hb⟩
    clear h
    go_enter Tryz.func54, Tryz.ntmps54
    go_wp2
    refine wp_loop_rounds 3 ?_
    rw [rounds_succ]; go_wp2_with fail
    refine (bcheck_ok a _ ha).mono ?_
    rintro e w1 ⟨rfl, hS⟩
    clear a0 a1 a2 a3 a4 a5
    have HA1 := Lib.hid ((HA.out.alloc hb _).below (by simp; omega) hS)
    have hz : w.heap.size < w1.heap.size := by have := hS.size; simp at this; omega
    have a0 := HA1.out (0 + 6) _ rfl; have a1 := HA1.out (1 + 6) _ rfl; have a2 := HA1.out (2 + 6) _ rfl; have a3 := HA1.out (3 + 6) _ rfl; have a4 := HA1.out (4 + 6) _ rfl; have a5 := HA1.out (5 + 6) _ rfl
    go_wp2
    rw [rounds_succ]; go_wp2_with fail
    refine (bcheck_no b _ h').mono ?_
    rintro e w2 ⟨rfl, hS2⟩
    go_wp2
    go_ret
    exact ⟨rfl, ((((Below.refl _ _).alloc (Nat.le_refl _) _).trans (hS.mono (by simp))).alloc (by omega) _).trans (hS2.mono (by simp; omega))⟩
  · clear h
    go_enter Tryz.func54, Tryz.ntmps54
    go_wp2
    refine wp_loop_rounds 3 ?_
    rw [rounds_succ]; go_wp2_with fail
    refine (bcheck_no a _ ha).mono ?_
    rintro e w1 ⟨rfl, hS⟩
    go_wp2
    go_ret
    exact ⟨rfl, ((Below.refl _ _).alloc (Nat.le_refl _) _).trans (hS.mono (by simp))⟩
end Go.Proofs.YtbcjnckejkjfeaaGreat
namespace Go.Proofs.YtbcjnckejkjfeaaGreat
set_option linter.unusedVariables false
set_option linter.unusedSimpArgs false
open Go.RowKit Go.NP
theorem cf60 (args : Array Value) (w1 : World) : (callFunc 60 args).run Tryz.prog w1 = .ok (.enter 60 args) w1 := enters Tryz.func60 (by kernel_rfl) (by kernel_rfl) args w1
theorem cf34 (args : Array Value) (w1 : World) : (callFunc 34 args).run Tryz.prog w1 = .ok (.enter 34 args) w1 := enters Tryz.func34 (by kernel_rfl) (by kernel_rfl) args w1
theorem cf59 (args : Array Value) (w1 : World) : (callFunc 59 args).run Tryz.prog w1 = .ok (.enter 59 args) w1 := enters Tryz.func59 (by kernel_rfl) (by kernel_rfl) args w1
theorem cf39 (args : Array Value) (w1 : World) : (callFunc 39 args).run Tryz.prog w1 = .ok (.enter 39 args) w1 := enters Tryz.func39 (by kernel_rfl) (by kernel_rfl) args w1
theorem cf38 (args : Array Value) (w1 : World) : (callFunc 38 args).run Tryz.prog w1 = .ok (.enter 38 args) w1 := enters Tryz.func38 (by kernel_rfl) (by kernel_rfl) args w1
theorem join_ok {a b : Bd} (h : a.ok ∧ b.ok) : join a b = ⟨pmin a.lo b.lo, pmax a.hi b.hi⟩ := if_pos h
theorem join_no {a b : Bd} (h : ¬ (a.ok ∧ b.ok)) : join a b = bzero := if_neg h
theorem size_ok {a : Bd} (h : a.ok) : size a = a.hi.x - a.lo.x + a.hi.y - a.lo.y + a.hi.z - a.lo.z := if_pos h
theorem size_no {a : Bd} (h : ¬ a.ok) : size a = 0 := if_neg h

set_option maxHeartbeats 1000000 in
theorem sizeC (a : Bd) (w : World) : RetB Tryz.prog 59 #[.agg #[.int .i64 a.lo.x, .int .i64 a.lo.y, .int .i64 a.lo.z, .int .i64 a.hi.x, .int .i64 a.hi.y, .int .i64 a.hi.z]] w (.int .i64 (size a)) := by
  by_cases h : a.ok
  · rw [size_ok h]
    have h' := h
    obtain ⟨⟨⟨x1, x2⟩, ⟨y1, y2⟩, ⟨z1, z2⟩⟩, ⟨⟨x3, x4⟩, ⟨y3, y4⟩, ⟨z3, z4⟩⟩, _⟩ := h'
    unfold RetB
    go_enter Tryz.func59, Tryz.ntmps59
    go_wp2_with fail
    refine (may1_ok a _ _ (by exact at_new (by simp)) h).mono ?_
    rintro e w1 ⟨rfl, hS⟩
    obtain ⟨hc, hcf⟩ := bcell hS
    go_wp2
    go_ret
    exact ⟨rfl, (((Below.refl _ _).alloc (Nat.le_refl _) _).alloc (by simp) _).trans (hS.mono (by simp; omega))⟩
  · rw [size_no h]
    unfold RetB
    go_enter Tryz.func59, Tryz.ntmps59
    go_wp2_with fail
    refine (may1_no a _ _ (by exact at_new (by simp)) h).mono ?_
    rintro e w1 ⟨rfl, hS⟩
    go_wp2
    go_ret
    exact ⟨rfl, (((Below.refl _ _).alloc (Nat.le_refl _) _).alloc (by simp) _).trans (hS.mono (by simp; omega))⟩
set_option maxHeartbeats 1000000 in
theorem joinC (a b : Bd) (w : World) : RetB Tryz.prog 60 #[.agg #[.int .i64 a.lo.x, .int .i64 a.lo.y, .int .i64 a.lo.z, .int .i64 a.hi.x, .int .i64 a.hi.y, .int .i64 a.hi.z], .agg #[.int .i64 b.lo.x, .int .i64 b.lo.y, .int .i64 b.lo.z, .int .i64 b.hi.x, .int .i64 b.hi.y, .int .i64 b.hi.z]] w (.agg #[.int .i64 (join a b).lo.x, .int .i64 (join a b).lo.y, .int .i64 (join a b).lo.z, .int .i64 (join a b).hi.x, .int .i64 (join a b).hi.y, .int .i64 (join a b).hi.z]) := by
  by_cases h : a.ok ∧ b.ok
  · rw [join_ok h]
    unfold RetB
    go_enter Tryz.func60, Tryz.ntmps60
    go_wp2_with fail
    refine (may2_ok a b _ _ (by simp) (by exact at_new (by simp)) h).mono ?_
    rintro e w1 ⟨rfl, hS⟩
    have hW : Below w.heap.size w w1 := (((((Below.refl _ _).alloc (Nat.le_refl _) _).alloc (by simp) _).alloc (by simp; omega) _).alloc (by simp; omega) _).trans (hS.mono (by simp; omega))
    have hz0 : w.heap.size < w1.heap.size := by have := (hS).size; simp at this; omega
    have hz1 : w.heap.size + 1 < w1.heap.size := by have := (hS).size; simp at this; omega
    have hz2 : w.heap.size + 1 + 1 < w1.heap.size := by have := (hS).size; simp at this; omega
    obtain ⟨hc, hcf⟩ := bcell hS
    go_wp2
    refine wp_region_ph [(11, .free [])] (by kernel_rfl) (by kernel_rfl) ?_
    refine Ph.belowd ?_
    simp only [List.drop_succ_cons, List.drop_zero, List.take_succ_cons, List.take_zero, Nat.reduceSub, Nat.sub_zero]
    iterate 4 (refine SeqO.val (v := ?_) (by rfl) (by rfl) (fun w1 hS => ?_) ?_; rotate_left; (· obtain ⟨hc, hcf⟩ := bcell hS; go_simp; try with_reducible rfl); simp only [Act.put, List.setIfInBounds_toArray, List.set_cons_zero, List.set_cons_succ])
    refine SeqO.callv (by rfl) (by rfl) (by rfl) cf65 (by simp [Act.eval]) (fun w1 hS => least a.lo b.lo w1) ?_
    simp only [Act.put, List.setIfInBounds_toArray, List.set_cons_zero, List.set_cons_succ]
    iterate 4 (refine SeqO.val (v := ?_) (by rfl) (by rfl) (fun w1 hS => ?_) ?_; rotate_left; (· obtain ⟨hc, hcf⟩ := bcell hS; go_simp; try with_reducible rfl); simp only [Act.put, List.setIfInBounds_toArray, List.set_cons_zero, List.set_cons_succ])
    refine SeqO.callv (by rfl) (by rfl) (by rfl) cf64 (by simp [Act.eval]) (fun w1 hS => most a.hi b.hi w1) ?_
    simp only [Act.put, List.setIfInBounds_toArray, List.set_cons_zero, List.set_cons_succ]
    iterate 1 (refine SeqO.val (v := ?_) (by rfl) (by rfl) (fun w1 hS => ?_) ?_; rotate_left; (· obtain ⟨hc, hcf⟩ := bcell hS; go_simp; try with_reducible rfl); simp only [Act.put, List.setIfInBounds_toArray, List.set_cons_zero, List.set_cons_succ])
    refine SeqO.nil0 fun w2 hS2 => ?_
    obtain ⟨hc2, hcf2⟩ := bcell hS2
    refine Ph.last ?_
    simp only [List.drop_succ_cons, List.drop_zero, List.take_succ_cons, List.take_zero, Nat.reduceSub, Nat.sub_zero]
    go_wp2
    exact bodyPost_ret (v := .agg #[.int .i64 (⟨pmin a.lo b.lo, pmax a.hi b.hi⟩ : Bd).lo.x, .int .i64 (⟨pmin a.lo b.lo, pmax a.hi b.hi⟩ : Bd).lo.y, .int .i64 (⟨pmin a.lo b.lo, pmax a.hi b.hi⟩ : Bd).lo.z, .int .i64 (⟨pmin a.lo b.lo, pmax a.hi b.hi⟩ : Bd).hi.x, .int .i64 (⟨pmin a.lo b.lo, pmax a.hi b.hi⟩ : Bd).hi.y, .int .i64 (⟨pmin a.lo b.lo, pmax a.hi b.hi⟩ : Bd).hi.z]) (by simp [results, Tryz.results60, go_sem, *]) rfl ⟨rfl, ((((((hW.trans (hS2.mono (by omega))).setCell (by first | omega | (simp; done) | (simp; omega)) _).setCell (by first | omega | (simp; done) | (simp; omega)) _).setCell (by first | omega | (simp; done) | (simp; omega)) _).setCell (by first | omega | (simp; done) | (simp; omega)) _).setCell (by first | omega | (simp; done) | (simp; omega)) _).setCell (by first | omega | (simp; done) | (simp; omega)) _⟩
  · rw [show join a b = ⟨⟨0, 0, 0⟩, ⟨0, 0, 0⟩⟩ from join_no h]
    unfold RetB
    go_enter Tryz.func60, Tryz.ntmps60
    go_wp2_with fail
    refine (may2_no a b _ _ (by simp) (by exact at_new (by simp)) h).mono ?_
    rintro e w1 ⟨rfl, hS⟩
    have hW : Below w.heap.size w w1 := (((((Below.refl _ _).alloc (Nat.le_refl _) _).alloc (by simp) _).alloc (by simp; omega) _).alloc (by simp; omega) _).trans (hS.mono (by simp; omega))
    have hz0 : w.heap.size < w1.heap.size := by have := (hS).size; simp at this; omega
    have hz1 : w.heap.size + 1 < w1.heap.size := by have := (hS).size; simp at this; omega
    have hz2 : w.heap.size + 1 + 1 < w1.heap.size := by have := (hS).size; simp at this; omega
    obtain ⟨hc, hcf⟩ := bcell hS
    go_wp2
    exact bodyPost_ret (v := .agg #[.int .i64 (⟨⟨0, 0, 0⟩, ⟨0, 0, 0⟩⟩ : Bd).lo.x, .int .i64 (⟨⟨0, 0, 0⟩, ⟨0, 0, 0⟩⟩ : Bd).lo.y, .int .i64 (⟨⟨0, 0, 0⟩, ⟨0, 0, 0⟩⟩ : Bd).lo.z, .int .i64 (⟨⟨0, 0, 0⟩, ⟨0, 0, 0⟩⟩ : Bd).hi.x, .int .i64 (⟨⟨0, 0, 0⟩, ⟨0, 0, 0⟩⟩ : Bd).hi.y, .int .i64 (⟨⟨0, 0, 0⟩, ⟨0, 0, 0⟩⟩ : Bd).hi.z]) (by simp [results, Tryz.results60, go_sem, *]) rfl ⟨rfl, ((((((hW).setCell (by first | omega | (simp; done) | (simp; omega)) _).setCell (by first | omega | (simp; done) | (simp; omega)) _).setCell (by first | omega | (simp; done) | (simp; omega)) _).setCell (by first | omega | (simp; done) | (simp; omega)) _).setCell (by first | omega | (simp; done) | (simp; omega)) _).setCell (by first | omega | (simp; done) | (simp; omega)) _⟩

theorem below_size {B : Nat} {W w : World} (h : Below B W w) {n : Nat} (hn : n < W.heap.size) : n < w.heap.size := Nat.lt_of_lt_of_le hn h.size
def growAt (a : Bd) (r : Int) : Bd := ⟨⟨down a.lo.x r, down a.lo.y r, down a.lo.z r⟩, ⟨up a.hi.x r, up a.hi.y r, up a.hi.z r⟩⟩
theorem grow_ok {a : Bd} {r : Int} (h : a.ok) : grow a r = growAt a (rOk r) := if_pos h
theorem grow_no {a : Bd} {r : Int} (h : ¬ a.ok) : grow a r = ⟨⟨0, 0, 0⟩, ⟨0, 0, 0⟩⟩ := if_neg h
set_option maxHeartbeats 2000000 in
theorem growC (a : Bd) (r : Int) (w : World) : RetB Tryz.prog 34 #[.agg #[.int .i64 a.lo.x, .int .i64 a.lo.y, .int .i64 a.lo.z, .int .i64 a.hi.x, .int .i64 a.hi.y, .int .i64 a.hi.z], .int .i64 r] w (.agg #[.int .i64 (grow a r).lo.x, .int .i64 (grow a r).lo.y, .int .i64 (grow a r).lo.z, .int .i64 (grow a r).hi.x, .int .i64 (grow a r).hi.y, .int .i64 (grow a r).hi.z]) := by
  by_cases h : a.ok
  · rw [grow_ok h]
    have ha := h
    obtain ⟨⟨x1, y1, z1⟩, ⟨x2, y2, z2⟩, _⟩ := ha
    unfold RetB
    by_cases h0 : 0 ≤ r ∧ r ≤ 268435456
    · have e : rOk r = r := if_pos h0
      rw [e]
      obtain ⟨r0, r1⟩ := h0
      have t1 : decide (r < 0) = false := decide_eq_false (by omega)
      have t2 : decide (268435456 < r) = false := decide_eq_false (by omega)
      clear e
      go_enter Tryz.func34, Tryz.ntmps34
      go_wp2_with fail
      refine (may1_ok a _ _ (by exact at_new (by simp)) h).mono ?_
      rintro e w1 ⟨rfl, hS⟩
      have hW : Below w.heap.size w w1 := (((((Below.refl _ _).alloc (Nat.le_refl _) _).alloc (by simp) _).alloc (by simp; omega) _).alloc (by simp; omega) _).trans (hS.mono (by simp; omega))
      have hz0 : w.heap.size < w1.heap.size := by have := (hS).size; simp at this; omega
      have hz1 : w.heap.size + 1 < w1.heap.size := by have := (hS).size; simp at this; omega
      have hz2 : w.heap.size + 1 + 1 < w1.heap.size := by have := (hS).size; simp at this; omega
      obtain ⟨hc, hcf⟩ := bcell hS
      go_wp2
      have hcell : ∀ w2 w3, Below (w1.alloc (.cells #[.int .i64 268435456, .int .i64 268435456, .int .i64 268435456] 36)).heap.size (w1.alloc (.cells #[.int .i64 268435456, .int .i64 268435456, .int .i64 268435456] 36)) w2 → Below w2.heap.size w2 w3 → w3.cell? ⟨w.heap.size + 1, 0, none⟩ = some (.int .i64 r) := fun w2 w3 h2 h3 => by
          rw [(bcell h3).1 _ _ (below_size h2 (by simp; omega)), (bcell h2).1 _ _ (by simp; omega)]
          go_simp
      have HC := Lib.hid hcell; clear hcell
      refine wp_region_ph [(11, .free [])] (by kernel_rfl) (by kernel_rfl) ?_
      refine Ph.belowd ?_
      simp only [List.drop_succ_cons, List.drop_zero, List.take_succ_cons, List.take_zero, Nat.reduceSub, Nat.sub_zero]
      iterate 4 (refine SeqO.val (v := ?_) (by rfl) (by rfl) (fun w1 hS => ?_) ?_; rotate_left; (· obtain ⟨hc, hcf⟩ := bcell hS; go_simp; try with_reducible rfl); simp only [Act.put, List.setIfInBounds_toArray, List.set_cons_zero, List.set_cons_succ])
      refine SeqO.callv (by rfl) (by rfl) (by rfl) cf55 (by simp [Act.eval]) (fun w1 hS => each 56 #[.pointer (some ⟨w.heap.size + 1, 0, none⟩)] cf56 a.lo (⟨268435456, 268435456, 268435456⟩ : Pt) (growAt a r).lo w1 (fun w3 hb => growl _ _ _ _ (HC.out _ _ hS hb) x1 (by omega) (by omega)) (fun w3 hb => growl _ _ _ _ (HC.out _ _ hS hb) y1 (by omega) (by omega)) (fun w3 hb => growl _ _ _ _ (HC.out _ _ hS hb) z1 (by omega) (by omega))) ?_
      simp only [Act.put, List.setIfInBounds_toArray, List.set_cons_zero, List.set_cons_succ]
      iterate 4 (refine SeqO.val (v := ?_) (by rfl) (by rfl) (fun w1 hS => ?_) ?_; rotate_left; (· obtain ⟨hc, hcf⟩ := bcell hS; go_simp; try with_reducible rfl); simp only [Act.put, List.setIfInBounds_toArray, List.set_cons_zero, List.set_cons_succ])
      refine SeqO.callv (by rfl) (by rfl) (by rfl) cf55 (by simp [Act.eval]) (fun w1 hS => each 57 #[.pointer (some ⟨w.heap.size + 1, 0, none⟩)] cf57 a.hi (⟨268435456, 268435456, 268435456⟩ : Pt) (growAt a r).hi w1 (fun w3 hb => growh _ _ _ _ (HC.out _ _ hS hb) x2 (by omega) (by omega)) (fun w3 hb => growh _ _ _ _ (HC.out _ _ hS hb) y2 (by omega) (by omega)) (fun w3 hb => growh _ _ _ _ (HC.out _ _ hS hb) z2 (by omega) (by omega))) ?_
      simp only [Act.put, List.setIfInBounds_toArray, List.set_cons_zero, List.set_cons_succ]
      iterate 1 (refine SeqO.val (v := ?_) (by rfl) (by rfl) (fun w1 hS => ?_) ?_; rotate_left; (· obtain ⟨hc, hcf⟩ := bcell hS; go_simp; try with_reducible rfl); simp only [Act.put, List.setIfInBounds_toArray, List.set_cons_zero, List.set_cons_succ])
      refine SeqO.nil0 fun w2 hS2 => ?_
      obtain ⟨hc2, hcf2⟩ := bcell hS2
      refine Ph.last ?_
      simp only [List.drop_succ_cons, List.drop_zero, List.take_succ_cons, List.take_zero, Nat.reduceSub, Nat.sub_zero]
      go_wp2
      exact bodyPost_ret (v := .agg #[.int .i64 (growAt a r).lo.x, .int .i64 (growAt a r).lo.y, .int .i64 (growAt a r).lo.z, .int .i64 (growAt a r).hi.x, .int .i64 (growAt a r).hi.y, .int .i64 (growAt a r).hi.z]) (by simp [results, Tryz.results34, go_sem, *]) rfl ⟨rfl, (((((((hW.alloc (by omega) _).trans (hS2.mono (by simp; omega))).setCell (by first | omega | (simp; done) | (simp; omega)) _).setCell (by first | omega | (simp; done) | (simp; omega)) _).setCell (by first | omega | (simp; done) | (simp; omega)) _).setCell (by first | omega | (simp; done) | (simp; omega)) _).setCell (by first | omega | (simp; done) | (simp; omega)) _).setCell (by first | omega | (simp; done) | (simp; omega)) _⟩
    · have e : rOk r = 0 := if_neg h0
      rw [e]
      clear e
      have tt : (decide (r < 0) = true) ∨ (decide (r < 0) = false ∧ decide (268435456 < r) = true) := by
        by_cases q : r < 0
        · exact .inl (decide_eq_true q)
        · exact .inr ⟨decide_eq_false q, decide_eq_true (by omega)⟩
      clear h0
      rcases tt with t1 | ⟨t1, t2⟩
      all_goals
        go_enter Tryz.func34, Tryz.ntmps34
        go_wp2_with fail
        refine (may1_ok a _ _ (by exact at_new (by simp)) h).mono ?_
        rintro e w1 ⟨rfl, hS⟩
        have hW : Below w.heap.size w w1 := (((((Below.refl _ _).alloc (Nat.le_refl _) _).alloc (by simp) _).alloc (by simp; omega) _).alloc (by simp; omega) _).trans (hS.mono (by simp; omega))
        have hz0 : w.heap.size < w1.heap.size := by have := (hS).size; simp at this; omega
        have hz1 : w.heap.size + 1 < w1.heap.size := by have := (hS).size; simp at this; omega
        have hz2 : w.heap.size + 1 + 1 < w1.heap.size := by have := (hS).size; simp at this; omega
        obtain ⟨hc, hcf⟩ := bcell hS
        go_wp2
        have hcell : ∀ w2 w3, Below ((w1.setCell ⟨w.heap.size + 1, 0, none⟩ (.int .i64 0)).alloc (.cells #[.int .i64 268435456, .int .i64 268435456, .int .i64 268435456] 36)).heap.size ((w1.setCell ⟨w.heap.size + 1, 0, none⟩ (.int .i64 0)).alloc (.cells #[.int .i64 268435456, .int .i64 268435456, .int .i64 268435456] 36)) w2 → Below w2.heap.size w2 w3 → w3.cell? ⟨w.heap.size + 1, 0, none⟩ = some (.int .i64 0) := fun w2 w3 h2 h3 => by
            rw [(bcell h3).1 _ _ (below_size h2 (by simp; omega)), (bcell h2).1 _ _ (by simp; omega)]
            go_simp
        have HC := Lib.hid hcell; clear hcell
        refine wp_region_ph [(11, .free [])] (by kernel_rfl) (by kernel_rfl) ?_
        refine Ph.belowd ?_
        simp only [List.drop_succ_cons, List.drop_zero, List.take_succ_cons, List.take_zero, Nat.reduceSub, Nat.sub_zero]
        iterate 4 (refine SeqO.val (v := ?_) (by rfl) (by rfl) (fun w1 hS => ?_) ?_; rotate_left; (· obtain ⟨hc, hcf⟩ := bcell hS; go_simp; try with_reducible rfl); simp only [Act.put, List.setIfInBounds_toArray, List.set_cons_zero, List.set_cons_succ])
        refine SeqO.callv (by rfl) (by rfl) (by rfl) cf55 (by simp [Act.eval]) (fun w1 hS => each 56 #[.pointer (some ⟨w.heap.size + 1, 0, none⟩)] cf56 a.lo (⟨268435456, 268435456, 268435456⟩ : Pt) (growAt a 0).lo w1 (fun w3 hb => growl _ _ _ _ (HC.out _ _ hS hb) x1 (by omega) (by omega)) (fun w3 hb => growl _ _ _ _ (HC.out _ _ hS hb) y1 (by omega) (by omega)) (fun w3 hb => growl _ _ _ _ (HC.out _ _ hS hb) z1 (by omega) (by omega))) ?_
        simp only [Act.put, List.setIfInBounds_toArray, List.set_cons_zero, List.set_cons_succ]
        iterate 4 (refine SeqO.val (v := ?_) (by rfl) (by rfl) (fun w1 hS => ?_) ?_; rotate_left; (· obtain ⟨hc, hcf⟩ := bcell hS; go_simp; try with_reducible rfl); simp only [Act.put, List.setIfInBounds_toArray, List.set_cons_zero, List.set_cons_succ])
        refine SeqO.callv (by rfl) (by rfl) (by rfl) cf55 (by simp [Act.eval]) (fun w1 hS => each 57 #[.pointer (some ⟨w.heap.size + 1, 0, none⟩)] cf57 a.hi (⟨268435456, 268435456, 268435456⟩ : Pt) (growAt a 0).hi w1 (fun w3 hb => growh _ _ _ _ (HC.out _ _ hS hb) x2 (by omega) (by omega)) (fun w3 hb => growh _ _ _ _ (HC.out _ _ hS hb) y2 (by omega) (by omega)) (fun w3 hb => growh _ _ _ _ (HC.out _ _ hS hb) z2 (by omega) (by omega))) ?_
        simp only [Act.put, List.setIfInBounds_toArray, List.set_cons_zero, List.set_cons_succ]
        iterate 1 (refine SeqO.val (v := ?_) (by rfl) (by rfl) (fun w1 hS => ?_) ?_; rotate_left; (· obtain ⟨hc, hcf⟩ := bcell hS; go_simp; try with_reducible rfl); simp only [Act.put, List.setIfInBounds_toArray, List.set_cons_zero, List.set_cons_succ])
        refine SeqO.nil0 fun w2 hS2 => ?_
        obtain ⟨hc2, hcf2⟩ := bcell hS2
        refine Ph.last ?_
        simp only [List.drop_succ_cons, List.drop_zero, List.take_succ_cons, List.take_zero, Nat.reduceSub, Nat.sub_zero]
        go_wp2
        exact bodyPost_ret (v := .agg #[.int .i64 (growAt a 0).lo.x, .int .i64 (growAt a 0).lo.y, .int .i64 (growAt a 0).lo.z, .int .i64 (growAt a 0).hi.x, .int .i64 (growAt a 0).hi.y, .int .i64 (growAt a 0).hi.z]) (by simp [results, Tryz.results34, go_sem, *]) rfl ⟨rfl, ((((((((hW.setCell (by simp) _).alloc (by simp; omega) _).trans (hS2.mono (by simp; omega))).setCell (by first | omega | (simp; done) | (simp; omega)) _).setCell (by first | omega | (simp; done) | (simp; omega)) _).setCell (by first | omega | (simp; done) | (simp; omega)) _).setCell (by first | omega | (simp; done) | (simp; omega)) _).setCell (by first | omega | (simp; done) | (simp; omega)) _).setCell (by first | omega | (simp; done) | (simp; omega)) _⟩
  · rw [grow_no h]
    unfold RetB
    go_enter Tryz.func34, Tryz.ntmps34
    go_wp2_with fail
    refine (may1_no a _ _ (by exact at_new (by simp)) h).mono ?_
    rintro e w1 ⟨rfl, hS⟩
    have hW : Below w.heap.size w w1 := (((((Below.refl _ _).alloc (Nat.le_refl _) _).alloc (by simp) _).alloc (by simp; omega) _).alloc (by simp; omega) _).trans (hS.mono (by simp; omega))
    have hz0 : w.heap.size < w1.heap.size := by have := (hS).size; simp at this; omega
    have hz1 : w.heap.size + 1 < w1.heap.size := by have := (hS).size; simp at this; omega
    have hz2 : w.heap.size + 1 + 1 < w1.heap.size := by have := (hS).size; simp at this; omega
    obtain ⟨hc, hcf⟩ := bcell hS
    go_wp2
    exact bodyPost_ret (v := .agg #[.int .i64 (⟨⟨0, 0, 0⟩, ⟨0, 0, 0⟩⟩ : Bd).lo.x, .int .i64 (⟨⟨0, 0, 0⟩, ⟨0, 0, 0⟩⟩ : Bd).lo.y, .int .i64 (⟨⟨0, 0, 0⟩, ⟨0, 0, 0⟩⟩ : Bd).lo.z, .int .i64 (⟨⟨0, 0, 0⟩, ⟨0, 0, 0⟩⟩ : Bd).hi.x, .int .i64 (⟨⟨0, 0, 0⟩, ⟨0, 0, 0⟩⟩ : Bd).hi.y, .int .i64 (⟨⟨0, 0, 0⟩, ⟨0, 0, 0⟩⟩ : Bd).hi.z]) (by simp [results, Tryz.results34, go_sem, *]) rfl ⟨rfl, ((((((hW).setCell (by first | omega | (simp; done) | (simp; omega)) _).setCell (by first | omega | (simp; done) | (simp; omega)) _).setCell (by first | omega | (simp; done) | (simp; omega)) _).setCell (by first | omega | (simp; done) | (simp; omega)) _).setCell (by first | omega | (simp; done) | (simp; omega)) _).setCell (by first | omega | (simp; done) | (simp; omega)) _⟩
end Go.Proofs.YtbcjnckejkjfeaaGreat
namespace Go.Proofs.YtbcjnckejkjfeaaGreat
set_option linter.unusedVariables false
set_option linter.unusedSimpArgs false
open Go.RowKit Go.NP
theorem bd_ne {j a : Bd} (h : ¬ j = a) : (¬ j.lo.x = a.lo.x) ∨ (j.lo.x = a.lo.x ∧ ¬ j.lo.y = a.lo.y) ∨ (j.lo.x = a.lo.x ∧ j.lo.y = a.lo.y ∧ ¬ j.lo.z = a.lo.z) ∨
    (j.lo.x = a.lo.x ∧ j.lo.y = a.lo.y ∧ j.lo.z = a.lo.z ∧ ¬ j.hi.x = a.hi.x) ∨ (j.lo.x = a.lo.x ∧ j.lo.y = a.lo.y ∧ j.lo.z = a.lo.z ∧ j.hi.x = a.hi.x ∧ ¬ j.hi.y = a.hi.y) ∨
    (j.lo.x = a.lo.x ∧ j.lo.y = a.lo.y ∧ j.lo.z = a.lo.z ∧ j.hi.x = a.hi.x ∧ j.hi.y = a.hi.y ∧ ¬ j.hi.z = a.hi.z) := by
  by_cases h1 : j.lo.x = a.lo.x
  · by_cases h2 : j.lo.y = a.lo.y
    · by_cases h3 : j.lo.z = a.lo.z
      · by_cases h4 : j.hi.x = a.hi.x
        · by_cases h5 : j.hi.y = a.hi.y
          · by_cases h6 : j.hi.z = a.hi.z
            · exfalso; apply h; cases j with | mk jl jh => cases a with | mk al ah => cases jl; cases jh; cases al; cases ah; simp_all
            · exact .inr (.inr (.inr (.inr (.inr ⟨h1, h2, h3, h4, h5, h6⟩))))
          · exact .inr (.inr (.inr (.inr (.inl ⟨h1, h2, h3, h4, h5⟩))))
        · exact .inr (.inr (.inr (.inl ⟨h1, h2, h3, h4⟩)))
      · exact .inr (.inr (.inl ⟨h1, h2, h3⟩))
    · exact .inr (.inl ⟨h1, h2⟩)
  · exact .inl h1
theorem pmax_ge {p q : Pt} (h : q.le p) : pmax p q = p := by
  obtain ⟨h1, h2, h3⟩ := h
  apply Pt.ext' <;> simp [pmax] <;> omega
theorem le_pmin {p q : Pt} (h : pmin p q = p) : p.le q := by
  have h1 := congrArg Pt.x h; have h2 := congrArg Pt.y h; have h3 := congrArg Pt.z h
  simp only [pmin] at h1 h2 h3
  exact ⟨by omega, by omega, by omega⟩
theorem le_pmax {p q : Pt} (h : pmax p q = p) : q.le p := by
  have h1 := congrArg Pt.x h; have h2 := congrArg Pt.y h; have h3 := congrArg Pt.z h
  simp only [pmax] at h1 h2 h3
  exact ⟨by omega, by omega, by omega⟩
theorem holds_join {a b : Bd} (h : a.ok ∧ b.ok) : holds a b = decide (join a b = a) := by
  unfold holds
  rw [join_ok h]
  apply decide_eq_decide.2
  constructor
  · rintro ⟨_, _, h1, h2⟩
    rw [pmin_le h1, pmax_ge h2]
  · intro e
    exact ⟨h.1, h.2, le_pmin (congrArg Bd.lo e), le_pmax (congrArg Bd.hi e)⟩
theorem holds_no {a b : Bd} (h : ¬ (a.ok ∧ b.ok)) : holds a b = false := decide_eq_false fun h' => h ⟨h'.1, h'.2.1⟩
set_option maxHeartbeats 2000000 in
theorem holdsC (a b : Bd) (w : World) : RetB Tryz.prog 39 #[.agg #[.int .i64 a.lo.x, .int .i64 a.lo.y, .int .i64 a.lo.z, .int .i64 a.hi.x, .int .i64 a.hi.y, .int .i64 a.hi.z], .agg #[.int .i64 b.lo.x, .int .i64 b.lo.y, .int .i64 b.lo.z, .int .i64 b.hi.x, .int .i64 b.hi.y, .int .i64 b.hi.z]] w (.bool (holds a b)) := by
  by_cases h : a.ok ∧ b.ok
  · rw [holds_join h]
    unfold RetB
    by_cases hj : join a b = a
    · rw [decide_eq_true hj]
      have HJ := Lib.hid hj; clear hj
      go_enter Tryz.func39, Tryz.ntmps39
      go_wp2
      refine wp_region_ph [(2, .free []), (4, .seq), (12, .free [])] (by kernel_rfl) (by kernel_rfl) ?_
      refine Ph.belowd ?_
      simp only [List.drop_succ_cons, List.drop_zero, List.take_succ_cons, List.take_zero, Nat.reduceSub, Nat.sub_zero]
      iterate 2 (refine SeqO.val (v := ?_) (by rfl) (by rfl) (fun w1 hS => ?_) ?_; rotate_left; (· obtain ⟨hc, hcf⟩ := bcell hS; go_simp; try with_reducible rfl); simp only [Act.put, List.setIfInBounds_toArray, List.set_cons_zero, List.set_cons_succ])
      refine SeqO.nil0 fun w1 hS => ?_
      obtain ⟨hc, hcf⟩ := bcell hS
      refine Ph.list ?_
      simp only [List.drop_succ_cons, List.drop_zero, List.take_succ_cons, List.take_zero, Nat.reduceSub, Nat.sub_zero]
      go_wp2_with fail
      refine (may2_ok a b _ _ (by simp) (by exact at_new (by simp)) h).mono ?_
      rintro e w2 ⟨rfl, hS2⟩
      have hW1 : Below w.heap.size w w1 := (((Below.refl _ _).alloc (Nat.le_refl _) _).alloc (by simp) _).trans (hS.mono (by simp; omega))
      have hz : w.heap.size + 1 + 1 ≤ w1.heap.size := by have := hS.size; simp at this; omega
      have hW2 : Below w.heap.size w w2 := (hW1.alloc (by omega) _).trans (hS2.mono (by simp; omega))
      have hz0 : w.heap.size < w2.heap.size := by have := hS2.size; simp at this; omega
      have hz1 : w.heap.size + 1 < w2.heap.size := by have := hS2.size; simp at this; omega
      have hy0 : w.heap.size < w1.heap.size := by omega
      have hy1 : w.heap.size + 1 < w1.heap.size := by omega
      have hx0 : w.heap.size < w1.heap.size + 1 := by omega
      have hx1 : w.heap.size + 1 < w1.heap.size + 1 := by omega
      obtain ⟨hc2, hcf2⟩ := bcell hS2
      go_wp2
      refine Ph.below ?_
      simp only [List.drop_succ_cons, List.drop_zero, List.take_succ_cons, List.take_zero, Nat.reduceSub, Nat.sub_zero]
      iterate 3 (refine SeqO.val (v := ?_) (by rfl) (by rfl) (fun w1 hS => ?_) ?_; rotate_left; (· obtain ⟨hc, hcf⟩ := bcell hS; go_simp; try with_reducible rfl); simp only [Act.put, List.setIfInBounds_toArray, List.set_cons_zero, List.set_cons_succ])
      refine SeqO.callv (by rfl) (by rfl) (by rfl) cf60 (by simp [Act.eval]) (fun w1 hS => (joinC a b w1).eq (by rw [HJ.out])) ?_
      simp only [Act.put, List.setIfInBounds_toArray, List.set_cons_zero, List.set_cons_succ]
      iterate 4 (refine SeqO.val (v := ?_) (by rfl) (by rfl) (fun w1 hS => ?_) ?_; rotate_left; (· obtain ⟨hc, hcf⟩ := bcell hS; go_simp; try with_reducible rfl); simp only [Act.put, List.setIfInBounds_toArray, List.set_cons_zero, List.set_cons_succ])
      refine SeqO.nil0 fun w3 hS3 => ?_
      refine Ph.last ?_
      simp only [List.drop_succ_cons, List.drop_zero, List.take_succ_cons, List.take_zero, Nat.reduceSub, Nat.sub_zero]
      go_wp2
      go_ret
      exact ⟨rfl, hW2.trans (hS3.mono (by omega))⟩
    · rw [decide_eq_false hj]
      rcases bd_ne hj with g | ⟨g1, g⟩ | ⟨g1, g2, g⟩ | ⟨g1, g2, g3, g⟩ | ⟨g1, g2, g3, g4, g⟩ | ⟨g1, g2, g3, g4, g5, g⟩
      all_goals
        clear hj
        go_enter Tryz.func39, Tryz.ntmps39
        go_wp2
        refine wp_region_ph [(2, .free []), (4, .seq), (12, .free [])] (by kernel_rfl) (by kernel_rfl) ?_
        refine Ph.belowd ?_
        simp only [List.drop_succ_cons, List.drop_zero, List.take_succ_cons, List.take_zero, Nat.reduceSub, Nat.sub_zero]
        iterate 2 (refine SeqO.val (v := ?_) (by rfl) (by rfl) (fun w1 hS => ?_) ?_; rotate_left; (· obtain ⟨hc, hcf⟩ := bcell hS; go_simp; try with_reducible rfl); simp only [Act.put, List.setIfInBounds_toArray, List.set_cons_zero, List.set_cons_succ])
        refine SeqO.nil0 fun w1 hS => ?_
        obtain ⟨hc, hcf⟩ := bcell hS
        refine Ph.list ?_
        simp only [List.drop_succ_cons, List.drop_zero, List.take_succ_cons, List.take_zero, Nat.reduceSub, Nat.sub_zero]
        go_wp2_with fail
        refine (may2_ok a b _ _ (by simp) (by exact at_new (by simp)) h).mono ?_
        rintro e w2 ⟨rfl, hS2⟩
        have hW1 : Below w.heap.size w w1 := (((Below.refl _ _).alloc (Nat.le_refl _) _).alloc (by simp) _).trans (hS.mono (by simp; omega))
        have hz : w.heap.size + 1 + 1 ≤ w1.heap.size := by have := hS.size; simp at this; omega
        have hW2 : Below w.heap.size w w2 := (hW1.alloc (by omega) _).trans (hS2.mono (by simp; omega))
        have hz0 : w.heap.size < w2.heap.size := by have := hS2.size; simp at this; omega
        have hz1 : w.heap.size + 1 < w2.heap.size := by have := hS2.size; simp at this; omega
        have hy0 : w.heap.size < w1.heap.size := by omega
        have hy1 : w.heap.size + 1 < w1.heap.size := by omega
        have hx0 : w.heap.size < w1.heap.size + 1 := by omega
        have hx1 : w.heap.size + 1 < w1.heap.size + 1 := by omega
        obtain ⟨hc2, hcf2⟩ := bcell hS2
        go_wp2
        refine Ph.below ?_
        simp only [List.drop_succ_cons, List.drop_zero, List.take_succ_cons, List.take_zero, Nat.reduceSub, Nat.sub_zero]
        iterate 3 (refine SeqO.val (v := ?_) (by rfl) (by rfl) (fun w1 hS => ?_) ?_; rotate_left; (· obtain ⟨hc, hcf⟩ := bcell hS; go_simp; try with_reducible rfl); simp only [Act.put, List.setIfInBounds_toArray, List.set_cons_zero, List.set_cons_succ])
        refine SeqO.callv (by rfl) (by rfl) (by rfl) cf60 (by simp [Act.eval]) (fun w1 hS => joinC a b w1) ?_
        simp only [Act.put, List.setIfInBounds_toArray, List.set_cons_zero, List.set_cons_succ]
        iterate 4 (refine SeqO.val (v := ?_) (by rfl) (by rfl) (fun w1 hS => ?_) ?_; rotate_left; (· obtain ⟨hc, hcf⟩ := bcell hS; go_simp; try with_reducible rfl); simp only [Act.put, List.setIfInBounds_toArray, List.set_cons_zero, List.set_cons_succ])
        refine SeqO.nil0 fun w3 hS3 => ?_
        refine Ph.last ?_
        simp only [List.drop_succ_cons, List.drop_zero, List.take_succ_cons, List.take_zero, Nat.reduceSub, Nat.sub_zero]
        go_wp2
        go_ret
        exact ⟨rfl, hW2.trans (hS3.mono (by omega))⟩
  · rw [holds_no h]
    unfold RetB
    go_enter Tryz.func39, Tryz.ntmps39
    go_wp2
    refine wp_region_ph [(2, .free []), (4, .seq), (12, .free [])] (by kernel_rfl) (by kernel_rfl) ?_
    refine Ph.belowd ?_
    simp only [List.drop_succ_cons, List.drop_zero, List.take_succ_cons, List.take_zero, Nat.reduceSub, Nat.sub_zero]
    iterate 2 (refine SeqO.val (v := ?_) (by rfl) (by rfl) (fun w1 hS => ?_) ?_; rotate_left; (· obtain ⟨hc, hcf⟩ := bcell hS; go_simp; try with_reducible rfl); simp only [Act.put, List.setIfInBounds_toArray, List.set_cons_zero, List.set_cons_succ])
    refine SeqO.nil0 fun w1 hS => ?_
    obtain ⟨hc, hcf⟩ := bcell hS
    refine Ph.list ?_
    simp only [List.drop_succ_cons, List.drop_zero, List.take_succ_cons, List.take_zero, Nat.reduceSub, Nat.sub_zero]
    go_wp2_with fail
    refine (may2_no a b _ _ (by simp) (by exact at_new (by simp)) h).mono ?_
    rintro e w2 ⟨rfl, hS2⟩
    have hW1 : Below w.heap.size w w1 := (((Below.refl _ _).alloc (Nat.le_refl _) _).alloc (by simp) _).trans (hS.mono (by simp; omega))
    have hz : w.heap.size + 1 + 1 ≤ w1.heap.size := by have := hS.size; simp at this; omega
    have hW2 : Below w.heap.size w w2 := (hW1.alloc (by omega) _).trans (hS2.mono (by simp; omega))
    have hz0 : w.heap.size < w2.heap.size := by have := hS2.size; simp at this; omega
    have hz1 : w.heap.size + 1 < w2.heap.size := by have := hS2.size; simp at this; omega
    have hy0 : w.heap.size < w1.heap.size := by omega
    have hy1 : w.heap.size + 1 < w1.heap.size := by omega
    have hx0 : w.heap.size < w1.heap.size + 1 := by omega
    have hx1 : w.heap.size + 1 < w1.heap.size + 1 := by omega
    obtain ⟨hc2, hcf2⟩ := bcell hS2
    go_wp2
    refine Ph.below ?_
    simp only [List.drop_succ_cons, List.drop_zero, List.take_succ_cons, List.take_zero, Nat.reduceSub, Nat.sub_zero]
    iterate 1 (refine SeqO.val (v := ?_) (by rfl) (by rfl) (fun w1 hS => ?_) ?_; rotate_left; (· obtain ⟨hc, hcf⟩ := bcell hS; go_simp; try with_reducible rfl); simp only [Act.put, List.setIfInBounds_toArray, List.set_cons_zero, List.set_cons_succ])
    iterate 5 (refine SeqO.skip (by rfl) (by rfl) ?_; simp only [Act.put, List.setIfInBounds_toArray, List.set_cons_zero, List.set_cons_succ])
    iterate 2 (refine SeqO.val (v := ?_) (by rfl) (by rfl) (fun w1 hS => ?_) ?_; rotate_left; (· obtain ⟨hc, hcf⟩ := bcell hS; go_simp; try with_reducible rfl); simp only [Act.put, List.setIfInBounds_toArray, List.set_cons_zero, List.set_cons_succ])
    refine SeqO.nil0 fun w3 hS3 => ?_
    refine Ph.last ?_
    simp only [List.drop_succ_cons, List.drop_zero, List.take_succ_cons, List.take_zero, Nat.reduceSub, Nat.sub_zero]
    go_wp2
    go_ret
    exact ⟨rfl, hW2.trans (hS3.mono (by omega))⟩
end Go.Proofs.YtbcjnckejkjfeaaGreat
namespace Go.Proofs.YtbcjnckejkjfeaaGreat
set_option linter.unusedVariables false
set_option linter.unusedSimpArgs false
open Go.RowKit Go.NP
def both (a b : Bd) : Bd := ⟨pmax a.lo b.lo, pmin a.hi b.hi⟩
theorem pmax_ok {p q : Pt} (h : p.ok) (h' : q.ok) : (pmax p q).ok := by
  unfold Pt.ok okN pmax at *
  refine ⟨?_, ?_, ?_⟩ <;> simp only [] <;> omega
theorem pmin_ok {p q : Pt} (h : p.ok) (h' : q.ok) : (pmin p q).ok := by
  unfold Pt.ok okN pmin at *
  refine ⟨?_, ?_, ?_⟩ <;> simp only [] <;> omega
theorem meet_both {a b : Bd} (h : a.ok ∧ b.ok) : meet a b = decide (both a b).ok := by
  unfold meet
  apply decide_eq_decide.2
  constructor
  · exact fun ⟨_, _, h'⟩ => ⟨pmax_ok h.1.1 h.2.1, pmin_ok h.1.2.1 h.2.2.1, h'⟩
  · exact fun h' => ⟨h.1, h.2, h'.2.2⟩
theorem meet_no {a b : Bd} (h : ¬ (a.ok ∧ b.ok)) : meet a b = false := decide_eq_false fun h' => h ⟨h'.1, h'.2.1⟩
set_option maxHeartbeats 2000000 in
theorem meetC (a b : Bd) (w : World) : RetB Tryz.prog 38 #[.agg #[.int .i64 a.lo.x, .int .i64 a.lo.y, .int .i64 a.lo.z, .int .i64 a.hi.x, .int .i64 a.hi.y, .int .i64 a.hi.z], .agg #[.int .i64 b.lo.x, .int .i64 b.lo.y, .int .i64 b.lo.z, .int .i64 b.hi.x, .int .i64 b.hi.y, .int .i64 b.hi.z]] w (.bool (meet a b)) := by
  by_cases h : a.ok ∧ b.ok
  · rw [meet_both h]
    unfold RetB
    by_cases hj : (both a b).ok
    · rw [decide_eq_true hj]
      go_enter Tryz.func38, Tryz.ntmps38
      go_wp2
      refine wp_region_ph [(2, .free []), (4, .seq), (16, .free []), (18, .seq), (20, .free [])] (by kernel_rfl) (by kernel_rfl) ?_
      refine Ph.belowd ?_
      simp only [List.drop_succ_cons, List.drop_zero, List.take_succ_cons, List.take_zero, Nat.reduceSub, Nat.sub_zero]
      iterate 2 (refine SeqO.val (v := ?_) (by rfl) (by rfl) (fun w1 hS => ?_) ?_; rotate_left; (· obtain ⟨hc, hcf⟩ := bcell hS; go_simp; try with_reducible rfl); simp only [Act.put, List.setIfInBounds_toArray, List.set_cons_zero, List.set_cons_succ])
      refine SeqO.nil0 fun w1 hS => ?_
      obtain ⟨hc, hcf⟩ := bcell hS
      refine Ph.list ?_
      simp only [List.drop_succ_cons, List.drop_zero, List.take_succ_cons, List.take_zero, Nat.reduceSub, Nat.sub_zero]
      go_wp2_with fail
      refine (may2_ok a b _ _ (by simp) (by exact at_new (by simp)) h).mono ?_
      rintro e w2 ⟨rfl, hS2⟩
      have hW1 : Below w.heap.size w w1 := (((Below.refl _ _).alloc (Nat.le_refl _) _).alloc (by simp) _).trans (hS.mono (by simp; omega))
      have hz : w.heap.size + 1 + 1 ≤ w1.heap.size := by have := hS.size; simp at this; omega
      have hW2 : Below w.heap.size w w2 := (hW1.alloc (by omega) _).trans (hS2.mono (by simp; omega))
      have hz0 : w.heap.size < w2.heap.size := by have := hS2.size; simp at this; omega
      have hz1 : w.heap.size + 1 < w2.heap.size := by have := hS2.size; simp at this; omega
      have hy0 : w.heap.size < w1.heap.size := by omega
      have hy1 : w.heap.size + 1 < w1.heap.size := by omega
      have hx0 : w.heap.size < w1.heap.size + 1 := by omega
      have hx1 : w.heap.size + 1 < w1.heap.size + 1 := by omega
      obtain ⟨hc2, hcf2⟩ := bcell hS2
      go_wp2
      refine Ph.below ?_
      simp only [List.drop_succ_cons, List.drop_zero, List.take_succ_cons, List.take_zero, Nat.reduceSub, Nat.sub_zero]
      iterate 5 (refine SeqO.val (v := ?_) (by rfl) (by rfl) (fun w1 hS => ?_) ?_; rotate_left; (· obtain ⟨hc, hcf⟩ := bcell hS; go_simp; try with_reducible rfl); simp only [Act.put, List.setIfInBounds_toArray, List.set_cons_zero, List.set_cons_succ])
      refine SeqO.callv (by rfl) (by rfl) (by rfl) cf64 (by simp [Act.eval]) (fun w1 hS => most a.lo b.lo w1) ?_
      simp only [Act.put, List.setIfInBounds_toArray, List.set_cons_zero, List.set_cons_succ]
      iterate 4 (refine SeqO.val (v := ?_) (by rfl) (by rfl) (fun w1 hS => ?_) ?_; rotate_left; (· obtain ⟨hc, hcf⟩ := bcell hS; go_simp; try with_reducible rfl); simp only [Act.put, List.setIfInBounds_toArray, List.set_cons_zero, List.set_cons_succ])
      refine SeqO.callv (by rfl) (by rfl) (by rfl) cf65 (by simp [Act.eval]) (fun w1 hS => least a.hi b.hi w1) ?_
      simp only [Act.put, List.setIfInBounds_toArray, List.set_cons_zero, List.set_cons_succ]
      iterate 1 (refine SeqO.val (v := ?_) (by rfl) (by rfl) (fun w1 hS => ?_) ?_; rotate_left; (· obtain ⟨hc, hcf⟩ := bcell hS; go_simp; try with_reducible rfl); simp only [Act.put, List.setIfInBounds_toArray, List.set_cons_zero, List.set_cons_succ])
      refine SeqO.nil0 fun w3 hS3 => ?_
      refine Ph.list ?_
      simp only [List.drop_succ_cons, List.drop_zero, List.take_succ_cons, List.take_zero, Nat.reduceSub, Nat.sub_zero]
      go_wp2_with fail
      refine (may1_ok (both a b) _ _ (by exact at_new (by simp)) hj).mono ?_
      rintro e w4 ⟨rfl, hS4⟩
      have hW3 : Below w.heap.size w w3 := hW2.trans (hS3.mono (by omega))
      have hz3 : w2.heap.size ≤ w3.heap.size := hS3.size
      have hW4 : Below w.heap.size w w4 := (hW3.alloc (by omega) _).trans (hS4.mono (by simp; omega))
      have hz4 : w3.heap.size ≤ w4.heap.size := by have := hS4.size; simp at this; omega
      go_wp2
      refine Ph.below ?_
      simp only [List.drop_succ_cons, List.drop_zero, List.take_succ_cons, List.take_zero, Nat.reduceSub, Nat.sub_zero]
      iterate 2 (refine SeqO.val (v := ?_) (by rfl) (by rfl) (fun w1 hS => ?_) ?_; rotate_left; (· obtain ⟨hc, hcf⟩ := bcell hS; go_simp; try with_reducible rfl); simp only [Act.put, List.setIfInBounds_toArray, List.set_cons_zero, List.set_cons_succ])
      refine SeqO.nil0 fun w5 hS5 => ?_
      refine Ph.last ?_
      simp only [List.drop_succ_cons, List.drop_zero, List.take_succ_cons, List.take_zero, Nat.reduceSub, Nat.sub_zero]
      go_wp2
      go_ret
      exact ⟨rfl, (hW4).trans (hS5.mono (by omega))⟩
    · rw [decide_eq_false hj]
      go_enter Tryz.func38, Tryz.ntmps38
      go_wp2
      refine wp_region_ph [(2, .free []), (4, .seq), (16, .free []), (18, .seq), (20, .free [])] (by kernel_rfl) (by kernel_rfl) ?_
      refine Ph.belowd ?_
      simp only [List.drop_succ_cons, List.drop_zero, List.take_succ_cons, List.take_zero, Nat.reduceSub, Nat.sub_zero]
      iterate 2 (refine SeqO.val (v := ?_) (by rfl) (by rfl) (fun w1 hS => ?_) ?_; rotate_left; (· obtain ⟨hc, hcf⟩ := bcell hS; go_simp; try with_reducible rfl); simp only [Act.put, List.setIfInBounds_toArray, List.set_cons_zero, List.set_cons_succ])
      refine SeqO.nil0 fun w1 hS => ?_
      obtain ⟨hc, hcf⟩ := bcell hS
      refine Ph.list ?_
      simp only [List.drop_succ_cons, List.drop_zero, List.take_succ_cons, List.take_zero, Nat.reduceSub, Nat.sub_zero]
      go_wp2_with fail
      refine (may2_ok a b _ _ (by simp) (by exact at_new (by simp)) h).mono ?_
      rintro e w2 ⟨rfl, hS2⟩
      have hW1 : Below w.heap.size w w1 := (((Below.refl _ _).alloc (Nat.le_refl _) _).alloc (by simp) _).trans (hS.mono (by simp; omega))
      have hz : w.heap.size + 1 + 1 ≤ w1.heap.size := by have := hS.size; simp at this; omega
      have hW2 : Below w.heap.size w w2 := (hW1.alloc (by omega) _).trans (hS2.mono (by simp; omega))
      have hz0 : w.heap.size < w2.heap.size := by have := hS2.size; simp at this; omega
      have hz1 : w.heap.size + 1 < w2.heap.size := by have := hS2.size; simp at this; omega
      have hy0 : w.heap.size < w1.heap.size := by omega
      have hy1 : w.heap.size + 1 < w1.heap.size := by omega
      have hx0 : w.heap.size < w1.heap.size + 1 := by omega
      have hx1 : w.heap.size + 1 < w1.heap.size + 1 := by omega
      obtain ⟨hc2, hcf2⟩ := bcell hS2
      go_wp2
      refine Ph.below ?_
      simp only [List.drop_succ_cons, List.drop_zero, List.take_succ_cons, List.take_zero, Nat.reduceSub, Nat.sub_zero]
      iterate 5 (refine SeqO.val (v := ?_) (by rfl) (by rfl) (fun w1 hS => ?_) ?_; rotate_left; (· obtain ⟨hc, hcf⟩ := bcell hS; go_simp; try with_reducible rfl); simp only [Act.put, List.setIfInBounds_toArray, List.set_cons_zero, List.set_cons_succ])
      refine SeqO.callv (by rfl) (by rfl) (by rfl) cf64 (by simp [Act.eval]) (fun w1 hS => most a.lo b.lo w1) ?_
      simp only [Act.put, List.setIfInBounds_toArray, List.set_cons_zero, List.set_cons_succ]
      iterate 4 (refine SeqO.val (v := ?_) (by rfl) (by rfl) (fun w1 hS => ?_) ?_; rotate_left; (· obtain ⟨hc, hcf⟩ := bcell hS; go_simp; try with_reducible rfl); simp only [Act.put, List.setIfInBounds_toArray, List.set_cons_zero, List.set_cons_succ])
      refine SeqO.callv (by rfl) (by rfl) (by rfl) cf65 (by simp [Act.eval]) (fun w1 hS => least a.hi b.hi w1) ?_
      simp only [Act.put, List.setIfInBounds_toArray, List.set_cons_zero, List.set_cons_succ]
      iterate 1 (refine SeqO.val (v := ?_) (by rfl) (by rfl) (fun w1 hS => ?_) ?_; rotate_left; (· obtain ⟨hc, hcf⟩ := bcell hS; go_simp; try with_reducible rfl); simp only [Act.put, List.setIfInBounds_toArray, List.set_cons_zero, List.set_cons_succ])
      refine SeqO.nil0 fun w3 hS3 => ?_
      refine Ph.list ?_
      simp only [List.drop_succ_cons, List.drop_zero, List.take_succ_cons, List.take_zero, Nat.reduceSub, Nat.sub_zero]
      go_wp2_with fail
      refine (may1_no (both a b) _ _ (by exact at_new (by simp)) hj).mono ?_
      rintro e w4 ⟨rfl, hS4⟩
      have hW3 : Below w.heap.size w w3 := hW2.trans (hS3.mono (by omega))
      have hz3 : w2.heap.size ≤ w3.heap.size := hS3.size
      have hW4 : Below w.heap.size w w4 := (hW3.alloc (by omega) _).trans (hS4.mono (by simp; omega))
      have hz4 : w3.heap.size ≤ w4.heap.size := by have := hS4.size; simp at this; omega
      go_wp2
      refine Ph.below ?_
      simp only [List.drop_succ_cons, List.drop_zero, List.take_succ_cons, List.take_zero, Nat.reduceSub, Nat.sub_zero]
      iterate 2 (refine SeqO.val (v := ?_) (by rfl) (by rfl) (fun w1 hS => ?_) ?_; rotate_left; (· obtain ⟨hc, hcf⟩ := bcell hS; go_simp; try with_reducible rfl); simp only [Act.put, List.setIfInBounds_toArray, List.set_cons_zero, List.set_cons_succ])
      refine SeqO.nil0 fun w5 hS5 => ?_
      refine Ph.last ?_
      simp only [List.drop_succ_cons, List.drop_zero, List.take_succ_cons, List.take_zero, Nat.reduceSub, Nat.sub_zero]
      go_wp2
      go_ret
      exact ⟨rfl, (hW4).trans (hS5.mono (by omega))⟩
  · rw [meet_no h]
    unfold RetB
    go_enter Tryz.func38, Tryz.ntmps38
    go_wp2
    refine wp_region_ph [(2, .free []), (4, .seq), (16, .free []), (18, .seq), (20, .free [])] (by kernel_rfl) (by kernel_rfl) ?_
    refine Ph.belowd ?_
    simp only [List.drop_succ_cons, List.drop_zero, List.take_succ_cons, List.take_zero, Nat.reduceSub, Nat.sub_zero]
    iterate 2 (refine SeqO.val (v := ?_) (by rfl) (by rfl) (fun w1 hS => ?_) ?_; rotate_left; (· obtain ⟨hc, hcf⟩ := bcell hS; go_simp; try with_reducible rfl); simp only [Act.put, List.setIfInBounds_toArray, List.set_cons_zero, List.set_cons_succ])
    refine SeqO.nil0 fun w1 hS => ?_
    obtain ⟨hc, hcf⟩ := bcell hS
    refine Ph.list ?_
    simp only [List.drop_succ_cons, List.drop_zero, List.take_succ_cons, List.take_zero, Nat.reduceSub, Nat.sub_zero]
    go_wp2_with fail
    refine (may2_no a b _ _ (by simp) (by exact at_new (by simp)) h).mono ?_
    rintro e w2 ⟨rfl, hS2⟩
    have hW1 : Below w.heap.size w w1 := (((Below.refl _ _).alloc (Nat.le_refl _) _).alloc (by simp) _).trans (hS.mono (by simp; omega))
    have hz : w.heap.size + 1 + 1 ≤ w1.heap.size := by have := hS.size; simp at this; omega
    have hW2 : Below w.heap.size w w2 := (hW1.alloc (by omega) _).trans (hS2.mono (by simp; omega))
    have hz0 : w.heap.size < w2.heap.size := by have := hS2.size; simp at this; omega
    have hz1 : w.heap.size + 1 < w2.heap.size := by have := hS2.size; simp at this; omega
    have hy0 : w.heap.size < w1.heap.size := by omega
    have hy1 : w.heap.size + 1 < w1.heap.size := by omega
    have hx0 : w.heap.size < w1.heap.size + 1 := by omega
    have hx1 : w.heap.size + 1 < w1.heap.size + 1 := by omega
    obtain ⟨hc2, hcf2⟩ := bcell hS2
    go_wp2
    refine Ph.below ?_
    simp only [List.drop_succ_cons, List.drop_zero, List.take_succ_cons, List.take_zero, Nat.reduceSub, Nat.sub_zero]
    iterate 1 (refine SeqO.val (v := ?_) (by rfl) (by rfl) (fun w1 hS => ?_) ?_; rotate_left; (· obtain ⟨hc, hcf⟩ := bcell hS; go_simp; try with_reducible rfl); simp only [Act.put, List.setIfInBounds_toArray, List.set_cons_zero, List.set_cons_succ])
    iterate 11 (refine SeqO.skip (by rfl) (by rfl) ?_; simp only [Act.put, List.setIfInBounds_toArray, List.set_cons_zero, List.set_cons_succ])
    refine SeqO.nil0 fun w3 hS3 => ?_
    have hz3 : w2.heap.size ≤ w3.heap.size := hS3.size
    refine Ph.list ?_
    simp only [List.drop_succ_cons, List.drop_zero, List.take_succ_cons, List.take_zero, Nat.reduceSub, Nat.sub_zero]
    go_wp2
    refine Ph.below ?_
    simp only [List.drop_succ_cons, List.drop_zero, List.take_succ_cons, List.take_zero, Nat.reduceSub, Nat.sub_zero]
    iterate 2 (refine SeqO.val (v := ?_) (by rfl) (by rfl) (fun w1 hS => ?_) ?_; rotate_left; (· obtain ⟨hc, hcf⟩ := bcell hS; go_simp; try with_reducible rfl); simp only [Act.put, List.setIfInBounds_toArray, List.set_cons_zero, List.set_cons_succ])
    refine SeqO.nil0 fun w5 hS5 => ?_
    refine Ph.last ?_
    simp only [List.drop_succ_cons, List.drop_zero, List.take_succ_cons, List.take_zero, Nat.reduceSub, Nat.sub_zero]
    go_wp2
    go_ret
    exact ⟨rfl, (hW2.trans (hS3.mono (by omega))).trans (hS5.mono (by omega))⟩
end Go.Proofs.YtbcjnckejkjfeaaGreat
