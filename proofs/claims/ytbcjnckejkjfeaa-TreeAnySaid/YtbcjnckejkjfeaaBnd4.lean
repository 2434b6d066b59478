/- What the functions of bounds answer: their walks, fourth part. No condition. -/
import Derived.Test.YtbcjnckejkjfeaaBnd3
namespace Go.Proofs.Ytbcjnckejkjfeaa
set_option linter.unusedVariables false
set_option linter.unusedSimpArgs false
open Go.RowKit Go.NP
theorem bd_ne {j a : Bd} (h : ¬ j = a) : (¬ j.lo.x = a.lo.x) ∨ (j.lo.x = a.lo.x ∧ ¬ j.lo.y = a.lo.y) ∨ (j.lo.x = a.lo.x ∧ j.lo.y = a.lo.y ∧ ¬ j.lo.z = a.lo.z) ∨
    (j.lo.x = a.lo.x ∧ j.lo.y = a.lo.y ∧ j.lo.z = a.lo.z ∧ ¬ j.hi.x = a.hi.x) ∨ (j.lo.x = a.lo.x ∧ j.lo.y = a.lo.y ∧ j.lo.z = a.lo.z ∧ j.hi.x = a.hi.x ∧ ¬ j.hi.y = a.hi.y) ∨
    (j.lo.x = a.lo.x ∧ j.lo.y = a.lo.y ∧ j.lo.z = a.lo.z ∧ j.hi.x = a.hi.x ∧ j.hi.y = a.hi.y ∧ ¬ j.hi.z = a.hi.z) := by
  by_cases h1 : j.lo.x = a.lo.x
  · by_cases h2 : j.lo.y = a.lo.y
    · by_cases h3 : j.lo.z = a.lo.z
      · by_cases h4 : j.hi.x = a.hi.x
        · by_cases h5 : j.hi.y = a.hi.y
          · by_cases h6 : j.hi.z = a.hi.z
            · exfalso; apply h; cases j with | mk jl jh => cases a with | mk al ah => cases jl; cases jh; cases al; cases ah; simp_all
            · exact .inr (.inr (.inr (.inr (.inr ⟨h1, h2, h3, h4, h5, h6⟩))))
          · exact .inr (.inr (.inr (.inr (.inl ⟨h1, h2, h3, h4, h5⟩))))
        · exact .inr (.inr (.inr (.inl ⟨h1, h2, h3, h4⟩)))
      · exact .inr (.inr (.inl ⟨h1, h2, h3⟩))
    · exact .inr (.inl ⟨h1, h2⟩)
  · exact .inl h1
theorem pmax_ge {p q : Pt} (h : q.le p) : pmax p q = p := by
  obtain ⟨h1, h2, h3⟩ := h
  apply Pt.ext' <;> simp [pmax] <;> omega
theorem le_pmin {p q : Pt} (h : pmin p q = p) : p.le q := by
  have h1 := congrArg Pt.x h; have h2 := congrArg Pt.y h; have h3 := congrArg Pt.z h
  simp only [pmin] at h1 h2 h3
  exact ⟨by omega, by omega, by omega⟩
theorem le_pmax {p q : Pt} (h : pmax p q = p) : q.le p := by
  have h1 := congrArg Pt.x h; have h2 := congrArg Pt.y h; have h3 := congrArg Pt.z h
  simp only [pmax] at h1 h2 h3
  exact ⟨by omega, by omega, by omega⟩
theorem holds_join {a b : Bd} (h : a.ok ∧ b.ok) : holds a b = decide (join a b = a) := by
  unfold holds
  rw [join_ok h]
  apply decide_eq_decide.2
  constructor
  · rintro ⟨_, _, h1, h2⟩
    rw [pmin_le h1, pmax_ge h2]
  · intro e
    exact ⟨h.1, h.2, le_pmin (congrArg Bd.lo e), le_pmax (congrArg Bd.hi e)⟩
theorem holds_no {a b : Bd} (h : ¬ (a.ok ∧ b.ok)) : holds a b = false := decide_eq_false fun h' => h ⟨h'.1, h'.2.1⟩
set_option maxHeartbeats 2000000 in
theorem holdsC (a b : Bd) (w : World) : RetB Try.prog 41 #[.agg #[.int .i64 a.lo.x, .int .i64 a.lo.y, .int .i64 a.lo.z, .int .i64 a.hi.x, .int .i64 a.hi.y, .int .i64 a.hi.z], .agg #[.int .i64 b.lo.x, .int .i64 b.lo.y, .int .i64 b.lo.z, .int .i64 b.hi.x, .int .i64 b.hi.y, .int .i64 b.hi.z]] w (.bool (holds a b)) := by
  by_cases h : a.ok ∧ b.ok
  · rw [holds_join h]
    unfold RetB
    by_cases hj : join a b = a
    · rw [decide_eq_true hj]
      have HJ := Lib.hid hj; clear hj
      go_enter Try.func41, Try.ntmps41
      go_wp2
      refine wp_region_ph [(2, .free []), (4, .seq), (12, .free [])] (by kernel_rfl) (by kernel_rfl) ?_
      refine Ph.belowd ?_
      simp only [List.drop_succ_cons, List.drop_zero, List.take_succ_cons, List.take_zero, Nat.reduceSub, Nat.sub_zero]
      iterate 2 (refine SeqO.val (v := ?_) (by rfl) (by rfl) (fun w1 hS => ?_) ?_; rotate_left; (· obtain ⟨hc, hcf⟩ := bcell hS; go_simp; try with_reducible rfl); simp only [Act.put, List.setIfInBounds_toArray, List.set_cons_zero, List.set_cons_succ])
      refine SeqO.nil0 fun w1 hS => ?_
      obtain ⟨hc, hcf⟩ := bcell hS
      refine Ph.list ?_
      simp only [List.drop_succ_cons, List.drop_zero, List.take_succ_cons, List.take_zero, Nat.reduceSub, Nat.sub_zero]
      go_wp2_with fail
      refine (may2_ok a b _ _ (by simp) (by exact at_new (by simp)) h).mono ?_
      rintro e w2 ⟨rfl, hS2⟩
      have hW1 : Below w.heap.size w w1 := (((Below.refl _ _).alloc (Nat.le_refl _) _).alloc (by simp) _).trans (hS.mono (by simp; omega))
      have hz : w.heap.size + 1 + 1 ≤ w1.heap.size := by have := hS.size; simp at this; omega
      have hW2 : Below w.heap.size w w2 := (hW1.alloc (by omega) _).trans (hS2.mono (by simp; omega))
      have hz0 : w.heap.size < w2.heap.size := by have := hS2.size; simp at this; omega
      have hz1 : w.heap.size + 1 < w2.heap.size := by have := hS2.size; simp at this; omega
      have hy0 : w.heap.size < w1.heap.size := by omega
      have hy1 : w.heap.size + 1 < w1.heap.size := by omega
      have hx0 : w.heap.size < w1.heap.size + 1 := by omega
      have hx1 : w.heap.size + 1 < w1.heap.size + 1 := by omega
      obtain ⟨hc2, hcf2⟩ := bcell hS2
      go_wp2
      refine Ph.below ?_
      simp only [List.drop_succ_cons, List.drop_zero, List.take_succ_cons, List.take_zero, Nat.reduceSub, Nat.sub_zero]
      iterate 3 (refine SeqO.val (v := ?_) (by rfl) (by rfl) (fun w1 hS => ?_) ?_; rotate_left; (· obtain ⟨hc, hcf⟩ := bcell hS; go_simp; try with_reducible rfl); simp only [Act.put, List.setIfInBounds_toArray, List.set_cons_zero, List.set_cons_succ])
      refine SeqO.callv (by rfl) (by rfl) (by rfl) cf56 (by simp [Act.eval]) (fun w1 hS => (joinC a b w1).eq (by rw [HJ.out])) ?_
      simp only [Act.put, List.setIfInBounds_toArray, List.set_cons_zero, List.set_cons_succ]
      iterate 4 (refine SeqO.val (v := ?_) (by rfl) (by rfl) (fun w1 hS => ?_) ?_; rotate_left; (· obtain ⟨hc, hcf⟩ := bcell hS; go_simp; try with_reducible rfl); simp only [Act.put, List.setIfInBounds_toArray, List.set_cons_zero, List.set_cons_succ])
      refine SeqO.nil0 fun w3 hS3 => ?_
      refine Ph.last ?_
      simp only [List.drop_succ_cons, List.drop_zero, List.take_succ_cons, List.take_zero, Nat.reduceSub, Nat.sub_zero]
      go_wp2
      go_ret
      exact ⟨rfl, hW2.trans (hS3.mono (by omega))⟩
    · rw [decide_eq_false hj]
      rcases bd_ne hj with g | ⟨g1, g⟩ | ⟨g1, g2, g⟩ | ⟨g1, g2, g3, g⟩ | ⟨g1, g2, g3, g4, g⟩ | ⟨g1, g2, g3, g4, g5, g⟩
      all_goals
        clear hj
        go_enter Try.func41, Try.ntmps41
        go_wp2
        refine wp_region_ph [(2, .free []), (4, .seq), (12, .free [])] (by kernel_rfl) (by kernel_rfl) ?_
        refine Ph.belowd ?_
        simp only [List.drop_succ_cons, List.drop_zero, List.take_succ_cons, List.take_zero, Nat.reduceSub, Nat.sub_zero]
        iterate 2 (refine SeqO.val (v := ?_) (by rfl) (by rfl) (fun w1 hS => ?_) ?_; rotate_left; (· obtain ⟨hc, hcf⟩ := bcell hS; go_simp; try with_reducible rfl); simp only [Act.put, List.setIfInBounds_toArray, List.set_cons_zero, List.set_cons_succ])
        refine SeqO.nil0 fun w1 hS => ?_
        obtain ⟨hc, hcf⟩ := bcell hS
        refine Ph.list ?_
        simp only [List.drop_succ_cons, List.drop_zero, List.take_succ_cons, List.take_zero, Nat.reduceSub, Nat.sub_zero]
        go_wp2_with fail
        refine (may2_ok a b _ _ (by simp) (by exact at_new (by simp)) h).mono ?_
        rintro e w2 ⟨rfl, hS2⟩
        have hW1 : Below w.heap.size w w1 := (((Below.refl _ _).alloc (Nat.le_refl _) _).alloc (by simp) _).trans (hS.mono (by simp; omega))
        have hz : w.heap.size + 1 + 1 ≤ w1.heap.size := by have := hS.size; simp at this; omega
        have hW2 : Below w.heap.size w w2 := (hW1.alloc (by omega) _).trans (hS2.mono (by simp; omega))
        have hz0 : w.heap.size < w2.heap.size := by have := hS2.size; simp at this; omega
        have hz1 : w.heap.size + 1 < w2.heap.size := by have := hS2.size; simp at this; omega
        have hy0 : w.heap.size < w1.heap.size := by omega
        have hy1 : w.heap.size + 1 < w1.heap.size := by omega
        have hx0 : w.heap.size < w1.heap.size + 1 := by omega
        have hx1 : w.heap.size + 1 < w1.heap.size + 1 := by omega
        obtain ⟨hc2, hcf2⟩ := bcell hS2
        go_wp2
        refine Ph.below ?_
        simp only [List.drop_succ_cons, List.drop_zero, List.take_succ_cons, List.take_zero, Nat.reduceSub, Nat.sub_zero]
        iterate 3 (refine SeqO.val (v := ?_) (by rfl) (by rfl) (fun w1 hS => ?_) ?_; rotate_left; (· obtain ⟨hc, hcf⟩ := bcell hS; go_simp; try with_reducible rfl); simp only [Act.put, List.setIfInBounds_toArray, List.set_cons_zero, List.set_cons_succ])
        refine SeqO.callv (by rfl) (by rfl) (by rfl) cf56 (by simp [Act.eval]) (fun w1 hS => joinC a b w1) ?_
        simp only [Act.put, List.setIfInBounds_toArray, List.set_cons_zero, List.set_cons_succ]
        iterate 4 (refine SeqO.val (v := ?_) (by rfl) (by rfl) (fun w1 hS => ?_) ?_; rotate_left; (· obtain ⟨hc, hcf⟩ := bcell hS; go_simp; try with_reducible rfl); simp only [Act.put, List.setIfInBounds_toArray, List.set_cons_zero, List.set_cons_succ])
        refine SeqO.nil0 fun w3 hS3 => ?_
        refine Ph.last ?_
        simp only [List.drop_succ_cons, List.drop_zero, List.take_succ_cons, List.take_zero, Nat.reduceSub, Nat.sub_zero]
        go_wp2
        go_ret
        exact ⟨rfl, hW2.trans (hS3.mono (by omega))⟩
  · rw [holds_no h]
    unfold RetB
    go_enter Try.func41, Try.ntmps41
    go_wp2
    refine wp_region_ph [(2, .free []), (4, .seq), (12, .free [])] (by kernel_rfl) (by kernel_rfl) ?_
    refine Ph.belowd ?_
    simp only [List.drop_succ_cons, List.drop_zero, List.take_succ_cons, List.take_zero, Nat.reduceSub, Nat.sub_zero]
    iterate 2 (refine SeqO.val (v := ?_) (by rfl) (by rfl) (fun w1 hS => ?_) ?_; rotate_left; (· obtain ⟨hc, hcf⟩ := bcell hS; go_simp; try with_reducible rfl); simp only [Act.put, List.setIfInBounds_toArray, List.set_cons_zero, List.set_cons_succ])
    refine SeqO.nil0 fun w1 hS => ?_
    obtain ⟨hc, hcf⟩ := bcell hS
    refine Ph.list ?_
    simp only [List.drop_succ_cons, List.drop_zero, List.take_succ_cons, List.take_zero, Nat.reduceSub, Nat.sub_zero]
    go_wp2_with fail
    refine (may2_no a b _ _ (by simp) (by exact at_new (by simp)) h).mono ?_
    rintro e w2 ⟨rfl, hS2⟩
    have hW1 : Below w.heap.size w w1 := (((Below.refl _ _).alloc (Nat.le_refl _) _).alloc (by simp) _).trans (hS.mono (by simp; omega))
    have hz : w.heap.size + 1 + 1 ≤ w1.heap.size := by have := hS.size; simp at this; omega
    have hW2 : Below w.heap.size w w2 := (hW1.alloc (by omega) _).trans (hS2.mono (by simp; omega))
    have hz0 : w.heap.size < w2.heap.size := by have := hS2.size; simp at this; omega
    have hz1 : w.heap.size + 1 < w2.heap.size := by have := hS2.size; simp at this; omega
    have hy0 : w.heap.size < w1.heap.size := by omega
    have hy1 : w.heap.size + 1 < w1.heap.size := by omega
    have hx0 : w.heap.size < w1.heap.size + 1 := by omega
    have hx1 : w.heap.size + 1 < w1.heap.size + 1 := by omega
    obtain ⟨hc2, hcf2⟩ := bcell hS2
    go_wp2
    refine Ph.below ?_
    simp only [List.drop_succ_cons, List.drop_zero, List.take_succ_cons, List.take_zero, Nat.reduceSub, Nat.sub_zero]
    iterate 1 (refine SeqO.val (v := ?_) (by rfl) (by rfl) (fun w1 hS => ?_) ?_; rotate_left; (· obtain ⟨hc, hcf⟩ := bcell hS; go_simp; try with_reducible rfl); simp only [Act.put, List.setIfInBounds_toArray, List.set_cons_zero, List.set_cons_succ])
    iterate 5 (refine SeqO.skip (by rfl) (by rfl) ?_; simp only [Act.put, List.setIfInBounds_toArray, List.set_cons_zero, List.set_cons_succ])
    iterate 2 (refine SeqO.val (v := ?_) (by rfl) (by rfl) (fun w1 hS => ?_) ?_; rotate_left; (· obtain ⟨hc, hcf⟩ := bcell hS; go_simp; try with_reducible rfl); simp only [Act.put, List.setIfInBounds_toArray, List.set_cons_zero, List.set_cons_succ])
    refine SeqO.nil0 fun w3 hS3 => ?_
    refine Ph.last ?_
    simp only [List.drop_succ_cons, List.drop_zero, List.take_succ_cons, List.take_zero, Nat.reduceSub, Nat.sub_zero]
    go_wp2
    go_ret
    exact ⟨rfl, hW2.trans (hS3.mono (by omega))⟩
end Go.Proofs.Ytbcjnckejkjfeaa
