/- What the functions of bounds answer: their walks, fifth part. No condition. -/
import Derived.Test.YtbcjnckejkjfeaaBnd4
namespace Go.Proofs.Ytbcjnckejkjfeaa
set_option linter.unusedVariables false
set_option linter.unusedSimpArgs false
open Go.RowKit Go.NP
def both (a b : Bd) : Bd := ⟨pmax a.lo b.lo, pmin a.hi b.hi⟩
theorem pmax_ok {p q : Pt} (h : p.ok) (h' : q.ok) : (pmax p q).ok := by
  unfold Pt.ok okN pmax at *
  refine ⟨?_, ?_, ?_⟩ <;> simp only [] <;> omega
theorem pmin_ok {p q : Pt} (h : p.ok) (h' : q.ok) : (pmin p q).ok := by
  unfold Pt.ok okN pmin at *
  refine ⟨?_, ?_, ?_⟩ <;> simp only [] <;> omega
theorem meet_both {a b : Bd} (h : a.ok ∧ b.ok) : meet a b = decide (both a b).ok := by
  unfold meet
  apply decide_eq_decide.2
  constructor
  · exact fun ⟨_, _, h'⟩ => ⟨pmax_ok h.1.1 h.2.1, pmin_ok h.1.2.1 h.2.2.1, h'⟩
  · exact fun h' => ⟨h.1, h.2, h'.2.2⟩
theorem meet_no {a b : Bd} (h : ¬ (a.ok ∧ b.ok)) : meet a b = false := decide_eq_false fun h' => h ⟨h'.1, h'.2.1⟩
set_option maxHeartbeats 2000000 in
theorem meetC (a b : Bd) (w : World) : RetB Try.prog 14 #[.agg #[.int .i64 a.lo.x, .int .i64 a.lo.y, .int .i64 a.lo.z, .int .i64 a.hi.x, .int .i64 a.hi.y, .int .i64 a.hi.z], .agg #[.int .i64 b.lo.x, .int .i64 b.lo.y, .int .i64 b.lo.z, .int .i64 b.hi.x, .int .i64 b.hi.y, .int .i64 b.hi.z]] w (.bool (meet a b)) := by
  by_cases h : a.ok ∧ b.ok
  · rw [meet_both h]
    unfold RetB
    by_cases hj : (both a b).ok
    · rw [decide_eq_true hj]
      go_enter Try.func14, Try.ntmps14
      go_wp2
      refine wp_region_ph [(2, .free []), (4, .seq), (16, .free []), (18, .seq), (20, .free [])] (by kernel_rfl) (by kernel_rfl) ?_
      refine Ph.belowd ?_
      simp only [List.drop_succ_cons, List.drop_zero, List.take_succ_cons, List.take_zero, Nat.reduceSub, Nat.sub_zero]
      iterate 2 (refine SeqO.val (v := ?_) (by rfl) (by rfl) (fun w1 hS => ?_) ?_; rotate_left; (· obtain ⟨hc, hcf⟩ := bcell hS; go_simp; try with_reducible rfl); simp only [Act.put, List.setIfInBounds_toArray, List.set_cons_zero, List.set_cons_succ])
      refine SeqO.nil0 fun w1 hS => ?_
      obtain ⟨hc, hcf⟩ := bcell hS
      refine Ph.list ?_
      simp only [List.drop_succ_cons, List.drop_zero, List.take_succ_cons, List.take_zero, Nat.reduceSub, Nat.sub_zero]
      go_wp2_with fail
      refine (may2_ok a b _ _ (by simp) (by exact at_new (by simp)) h).mono ?_
      rintro e w2 ⟨rfl, hS2⟩
      have hW1 : Below w.heap.size w w1 := (((Below.refl _ _).alloc (Nat.le_refl _) _).alloc (by simp) _).trans (hS.mono (by simp; omega))
      have hz : w.heap.size + 1 + 1 ≤ w1.heap.size := by have := hS.size; simp at this; omega
      have hW2 : Below w.heap.size w w2 := (hW1.alloc (by omega) _).trans (hS2.mono (by simp; omega))
      have hz0 : w.heap.size < w2.heap.size := by have := hS2.size; simp at this; omega
      have hz1 : w.heap.size + 1 < w2.heap.size := by have := hS2.size; simp at this; omega
      have hy0 : w.heap.size < w1.heap.size := by omega
      have hy1 : w.heap.size + 1 < w1.heap.size := by omega
      have hx0 : w.heap.size < w1.heap.size + 1 := by omega
      have hx1 : w.heap.size + 1 < w1.heap.size + 1 := by omega
      obtain ⟨hc2, hcf2⟩ := bcell hS2
      go_wp2
      refine Ph.below ?_
      simp only [List.drop_succ_cons, List.drop_zero, List.take_succ_cons, List.take_zero, Nat.reduceSub, Nat.sub_zero]
      iterate 5 (refine SeqO.val (v := ?_) (by rfl) (by rfl) (fun w1 hS => ?_) ?_; rotate_left; (· obtain ⟨hc, hcf⟩ := bcell hS; go_simp; try with_reducible rfl); simp only [Act.put, List.setIfInBounds_toArray, List.set_cons_zero, List.set_cons_succ])
      refine SeqO.callv (by rfl) (by rfl) (by rfl) cf33 (by simp [Act.eval]) (fun w1 hS => most a.lo b.lo w1) ?_
      simp only [Act.put, List.setIfInBounds_toArray, List.set_cons_zero, List.set_cons_succ]
      iterate 4 (refine SeqO.val (v := ?_) (by rfl) (by rfl) (fun w1 hS => ?_) ?_; rotate_left; (· obtain ⟨hc, hcf⟩ := bcell hS; go_simp; try with_reducible rfl); simp only [Act.put, List.setIfInBounds_toArray, List.set_cons_zero, List.set_cons_succ])
      refine SeqO.callv (by rfl) (by rfl) (by rfl) cf31 (by simp [Act.eval]) (fun w1 hS => least a.hi b.hi w1) ?_
      simp only [Act.put, List.setIfInBounds_toArray, List.set_cons_zero, List.set_cons_succ]
      iterate 1 (refine SeqO.val (v := ?_) (by rfl) (by rfl) (fun w1 hS => ?_) ?_; rotate_left; (· obtain ⟨hc, hcf⟩ := bcell hS; go_simp; try with_reducible rfl); simp only [Act.put, List.setIfInBounds_toArray, List.set_cons_zero, List.set_cons_succ])
      refine SeqO.nil0 fun w3 hS3 => ?_
      refine Ph.list ?_
      simp only [List.drop_succ_cons, List.drop_zero, List.take_succ_cons, List.take_zero, Nat.reduceSub, Nat.sub_zero]
      go_wp2_with fail
      refine (may1_ok (both a b) _ _ (by exact at_new (by simp)) hj).mono ?_
      rintro e w4 ⟨rfl, hS4⟩
      have hW3 : Below w.heap.size w w3 := hW2.trans (hS3.mono (by omega))
      have hz3 : w2.heap.size ≤ w3.heap.size := hS3.size
      have hW4 : Below w.heap.size w w4 := (hW3.alloc (by omega) _).trans (hS4.mono (by simp; omega))
      have hz4 : w3.heap.size ≤ w4.heap.size := by have := hS4.size; simp at this; omega
      go_wp2
      refine Ph.below ?_
      simp only [List.drop_succ_cons, List.drop_zero, List.take_succ_cons, List.take_zero, Nat.reduceSub, Nat.sub_zero]
      iterate 2 (refine SeqO.val (v := ?_) (by rfl) (by rfl) (fun w1 hS => ?_) ?_; rotate_left; (· obtain ⟨hc, hcf⟩ := bcell hS; go_simp; try with_reducible rfl); simp only [Act.put, List.setIfInBounds_toArray, List.set_cons_zero, List.set_cons_succ])
      refine SeqO.nil0 fun w5 hS5 => ?_
      refine Ph.last ?_
      simp only [List.drop_succ_cons, List.drop_zero, List.take_succ_cons, List.take_zero, Nat.reduceSub, Nat.sub_zero]
      go_wp2
      go_ret
      exact ⟨rfl, (hW4).trans (hS5.mono (by omega))⟩
    · rw [decide_eq_false hj]
      go_enter Try.func14, Try.ntmps14
      go_wp2
      refine wp_region_ph [(2, .free []), (4, .seq), (16, .free []), (18, .seq), (20, .free [])] (by kernel_rfl) (by kernel_rfl) ?_
      refine Ph.belowd ?_
      simp only [List.drop_succ_cons, List.drop_zero, List.take_succ_cons, List.take_zero, Nat.reduceSub, Nat.sub_zero]
      iterate 2 (refine SeqO.val (v := ?_) (by rfl) (by rfl) (fun w1 hS => ?_) ?_; rotate_left; (· obtain ⟨hc, hcf⟩ := bcell hS; go_simp; try with_reducible rfl); simp only [Act.put, List.setIfInBounds_toArray, List.set_cons_zero, List.set_cons_succ])
      refine SeqO.nil0 fun w1 hS => ?_
      obtain ⟨hc, hcf⟩ := bcell hS
      refine Ph.list ?_
      simp only [List.drop_succ_cons, List.drop_zero, List.take_succ_cons, List.take_zero, Nat.reduceSub, Nat.sub_zero]
      go_wp2_with fail
      refine (may2_ok a b _ _ (by simp) (by exact at_new (by simp)) h).mono ?_
      rintro e w2 ⟨rfl, hS2⟩
      have hW1 : Below w.heap.size w w1 := (((Below.refl _ _).alloc (Nat.le_refl _) _).alloc (by simp) _).trans (hS.mono (by simp; omega))
      have hz : w.heap.size + 1 + 1 ≤ w1.heap.size := by have := hS.size; simp at this; omega
      have hW2 : Below w.heap.size w w2 := (hW1.alloc (by omega) _).trans (hS2.mono (by simp; omega))
      have hz0 : w.heap.size < w2.heap.size := by have := hS2.size; simp at this; omega
      have hz1 : w.heap.size + 1 < w2.heap.size := by have := hS2.size; simp at this; omega
      have hy0 : w.heap.size < w1.heap.size := by omega
      have hy1 : w.heap.size + 1 < w1.heap.size := by omega
      have hx0 : w.heap.size < w1.heap.size + 1 := by omega
      have hx1 : w.heap.size + 1 < w1.heap.size + 1 := by omega
      obtain ⟨hc2, hcf2⟩ := bcell hS2
      go_wp2
      refine Ph.below ?_
      simp only [List.drop_succ_cons, List.drop_zero, List.take_succ_cons, List.take_zero, Nat.reduceSub, Nat.sub_zero]
      iterate 5 (refine SeqO.val (v := ?_) (by rfl) (by rfl) (fun w1 hS => ?_) ?_; rotate_left; (· obtain ⟨hc, hcf⟩ := bcell hS; go_simp; try with_reducible rfl); simp only [Act.put, List.setIfInBounds_toArray, List.set_cons_zero, List.set_cons_succ])
      refine SeqO.callv (by rfl) (by rfl) (by rfl) cf33 (by simp [Act.eval]) (fun w1 hS => most a.lo b.lo w1) ?_
      simp only [Act.put, List.setIfInBounds_toArray, List.set_cons_zero, List.set_cons_succ]
      iterate 4 (refine SeqO.val (v := ?_) (by rfl) (by rfl) (fun w1 hS => ?_) ?_; rotate_left; (· obtain ⟨hc, hcf⟩ := bcell hS; go_simp; try with_reducible rfl); simp only [Act.put, List.setIfInBounds_toArray, List.set_cons_zero, List.set_cons_succ])
      refine SeqO.callv (by rfl) (by rfl) (by rfl) cf31 (by simp [Act.eval]) (fun w1 hS => least a.hi b.hi w1) ?_
      simp only [Act.put, List.setIfInBounds_toArray, List.set_cons_zero, List.set_cons_succ]
      iterate 1 (refine SeqO.val (v := ?_) (by rfl) (by rfl) (fun w1 hS => ?_) ?_; rotate_left; (· obtain ⟨hc, hcf⟩ := bcell hS; go_simp; try with_reducible rfl); simp only [Act.put, List.setIfInBounds_toArray, List.set_cons_zero, List.set_cons_succ])
      refine SeqO.nil0 fun w3 hS3 => ?_
      refine Ph.list ?_
      simp only [List.drop_succ_cons, List.drop_zero, List.take_succ_cons, List.take_zero, Nat.reduceSub, Nat.sub_zero]
      go_wp2_with fail
      refine (may1_no (both a b) _ _ (by exact at_new (by simp)) hj).mono ?_
      rintro e w4 ⟨rfl, hS4⟩
      have hW3 : Below w.heap.size w w3 := hW2.trans (hS3.mono (by omega))
      have hz3 : w2.heap.size ≤ w3.heap.size := hS3.size
      have hW4 : Below w.heap.size w w4 := (hW3.alloc (by omega) _).trans (hS4.mono (by simp; omega))
      have hz4 : w3.heap.size ≤ w4.heap.size := by have := hS4.size; simp at this; omega
      go_wp2
      refine Ph.below ?_
      simp only [List.drop_succ_cons, List.drop_zero, List.take_succ_cons, List.take_zero, Nat.reduceSub, Nat.sub_zero]
      iterate 2 (refine SeqO.val (v := ?_) (by rfl) (by rfl) (fun w1 hS => ?_) ?_; rotate_left; (· obtain ⟨hc, hcf⟩ := bcell hS; go_simp; try with_reducible rfl); simp only [Act.put, List.setIfInBounds_toArray, List.set_cons_zero, List.set_cons_succ])
      refine SeqO.nil0 fun w5 hS5 => ?_
      refine Ph.last ?_
      simp only [List.drop_succ_cons, List.drop_zero, List.take_succ_cons, List.take_zero, Nat.reduceSub, Nat.sub_zero]
      go_wp2
      go_ret
      exact ⟨rfl, (hW4).trans (hS5.mono (by omega))⟩
  · rw [meet_no h]
    unfold RetB
    go_enter Try.func14, Try.ntmps14
    go_wp2
    refine wp_region_ph [(2, .free []), (4, .seq), (16, .free []), (18, .seq), (20, .free [])] (by kernel_rfl) (by kernel_rfl) ?_
    refine Ph.belowd ?_
    simp only [List.drop_succ_cons, List.drop_zero, List.take_succ_cons, List.take_zero, Nat.reduceSub, Nat.sub_zero]
    iterate 2 (refine SeqO.val (v := ?_) (by rfl) (by rfl) (fun w1 hS => ?_) ?_; rotate_left; (· obtain ⟨hc, hcf⟩ := bcell hS; go_simp; try with_reducible rfl); simp only [Act.put, List.setIfInBounds_toArray, List.set_cons_zero, List.set_cons_succ])
    refine SeqO.nil0 fun w1 hS => ?_
    obtain ⟨hc, hcf⟩ := bcell hS
    refine Ph.list ?_
    simp only [List.drop_succ_cons, List.drop_zero, List.take_succ_cons, List.take_zero, Nat.reduceSub, Nat.sub_zero]
    go_wp2_with fail
    refine (may2_no a b _ _ (by simp) (by exact at_new (by simp)) h).mono ?_
    rintro e w2 ⟨rfl, hS2⟩
    have hW1 : Below w.heap.size w w1 := (((Below.refl _ _).alloc (Nat.le_refl _) _).alloc (by simp) _).trans (hS.mono (by simp; omega))
    have hz : w.heap.size + 1 + 1 ≤ w1.heap.size := by have := hS.size; simp at this; omega
    have hW2 : Below w.heap.size w w2 := (hW1.alloc (by omega) _).trans (hS2.mono (by simp; omega))
    have hz0 : w.heap.size < w2.heap.size := by have := hS2.size; simp at this; omega
    have hz1 : w.heap.size + 1 < w2.heap.size := by have := hS2.size; simp at this; omega
    have hy0 : w.heap.size < w1.heap.size := by omega
    have hy1 : w.heap.size + 1 < w1.heap.size := by omega
    have hx0 : w.heap.size < w1.heap.size + 1 := by omega
    have hx1 : w.heap.size + 1 < w1.heap.size + 1 := by omega
    obtain ⟨hc2, hcf2⟩ := bcell hS2
    go_wp2
    refine Ph.below ?_
    simp only [List.drop_succ_cons, List.drop_zero, List.take_succ_cons, List.take_zero, Nat.reduceSub, Nat.sub_zero]
    iterate 1 (refine SeqO.val (v := ?_) (by rfl) (by rfl) (fun w1 hS => ?_) ?_; rotate_left; (· obtain ⟨hc, hcf⟩ := bcell hS; go_simp; try with_reducible rfl); simp only [Act.put, List.setIfInBounds_toArray, List.set_cons_zero, List.set_cons_succ])
    iterate 11 (refine SeqO.skip (by rfl) (by rfl) ?_; simp only [Act.put, List.setIfInBounds_toArray, List.set_cons_zero, List.set_cons_succ])
    refine SeqO.nil0 fun w3 hS3 => ?_
    have hz3 : w2.heap.size ≤ w3.heap.size := hS3.size
    refine Ph.list ?_
    simp only [List.drop_succ_cons, List.drop_zero, List.take_succ_cons, List.take_zero, Nat.reduceSub, Nat.sub_zero]
    go_wp2
    refine Ph.below ?_
    simp only [List.drop_succ_cons, List.drop_zero, List.take_succ_cons, List.take_zero, Nat.reduceSub, Nat.sub_zero]
    iterate 2 (refine SeqO.val (v := ?_) (by rfl) (by rfl) (fun w1 hS => ?_) ?_; rotate_left; (· obtain ⟨hc, hcf⟩ := bcell hS; go_simp; try with_reducible rfl); simp only [Act.put, List.setIfInBounds_toArray, List.set_cons_zero, List.set_cons_succ])
    refine SeqO.nil0 fun w5 hS5 => ?_
    refine Ph.last ?_
    simp only [List.drop_succ_cons, List.drop_zero, List.take_succ_cons, List.take_zero, Nat.reduceSub, Nat.sub_zero]
    go_wp2
    go_ret
    exact ⟨rfl, (hW2.trans (hS3.mono (by omega))).trans (hS5.mono (by omega))⟩
end Go.Proofs.Ytbcjnckejkjfeaa
