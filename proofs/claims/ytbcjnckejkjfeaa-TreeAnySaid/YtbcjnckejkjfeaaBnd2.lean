/- What the functions of bounds answer: their walks, second part. No condition. -/
import Derived.Test.YtbcjnckejkjfeaaBnd
namespace Go.Proofs.Ytbcjnckejkjfeaa
set_option linter.unusedVariables false
set_option linter.unusedSimpArgs false
open Go.RowKit Go.NP
theorem cf12 (args : Array Value) (w1 : World) : (callFunc 12 args).run Try.prog w1 = .ok (.enter 12 args) w1 := enters Try.func12 (by kernel_rfl) (by kernel_rfl) args w1
theorem cf32 (args : Array Value) (w1 : World) : (callFunc 32 args).run Try.prog w1 = .ok (.enter 32 args) w1 := enters Try.func32 (by kernel_rfl) (by kernel_rfl) args w1
theorem pmin_le {p q : Pt} (h : p.le q) : pmin p q = p := by
  obtain ⟨h1, h2, h3⟩ := h
  apply Pt.ext' <;> simp [pmin] <;> omega
theorem pmin_nle {p q : Pt} (h : ¬ p.le q) : (¬ (pmin p q).x = p.x) ∨ ((pmin p q).x = p.x ∧ ¬ (pmin p q).y = p.y) ∨ ((pmin p q).x = p.x ∧ (pmin p q).y = p.y ∧ ¬ (pmin p q).z = p.z) := by
  unfold Pt.le at h
  simp only [pmin]
  omega
set_option maxHeartbeats 1000000 in
theorem bcheck_ok (b : Bd) (w : World) (h : b.ok) : RetB Try.prog 12 #[.agg #[.int .i64 b.lo.x, .int .i64 b.lo.y, .int .i64 b.lo.z, .int .i64 b.hi.x, .int .i64 b.hi.y, .int .i64 b.hi.z]] w (.int .i64 0) := by
  obtain ⟨h1, h2, h3⟩ := h
  unfold RetB
  go_enter Try.func12, Try.ntmps12
  go_wp2
  refine wp_region_ph [(20, .free [])] (by kernel_rfl) (by kernel_rfl) ?_
  refine Ph.belowd ?_
  simp only [List.drop_succ_cons, List.drop_zero, List.take_succ_cons, List.take_zero, Nat.reduceSub, Nat.sub_zero]
  iterate 2 (refine SeqO.val (v := ?_) (by rfl) (by rfl) (fun w1 hS => ?_) ?_; rotate_left; (· obtain ⟨hc, hcf⟩ := bcell hS; go_simp; try with_reducible rfl); simp only [Act.put, List.setIfInBounds_toArray, List.set_cons_zero, List.set_cons_succ])
  refine SeqO.callv (by rfl) (by rfl) (by rfl) cf30 (by simp [Act.eval]) (fun w1 hS => gcheck_ok b.lo w1 h1) ?_
  simp only [Act.put, List.setIfInBounds_toArray, List.set_cons_zero, List.set_cons_succ]
  iterate 4 (refine SeqO.val (v := ?_) (by rfl) (by rfl) (fun w1 hS => ?_) ?_; rotate_left; (· obtain ⟨hc, hcf⟩ := bcell hS; go_simp; try with_reducible rfl); simp only [Act.put, List.setIfInBounds_toArray, List.set_cons_zero, List.set_cons_succ])
  refine SeqO.callv (by rfl) (by rfl) (by rfl) cf30 (by simp [Act.eval]) (fun w1 hS => gcheck_ok b.hi w1 h2) ?_
  simp only [Act.put, List.setIfInBounds_toArray, List.set_cons_zero, List.set_cons_succ]
  iterate 3 (refine SeqO.val (v := ?_) (by rfl) (by rfl) (fun w1 hS => ?_) ?_; rotate_left; (· obtain ⟨hc, hcf⟩ := bcell hS; go_simp; try with_reducible rfl); simp only [Act.put, List.setIfInBounds_toArray, List.set_cons_zero, List.set_cons_succ])
  iterate 4 (refine SeqO.val (v := ?_) (by rfl) (by rfl) (fun w1 hS => ?_) ?_; rotate_left; (· obtain ⟨hc, hcf⟩ := bcell hS; go_simp; try with_reducible rfl); simp only [Act.put, List.setIfInBounds_toArray, List.set_cons_zero, List.set_cons_succ])
  refine SeqO.callv (by rfl) (by rfl) (by rfl) cf31 (by simp [Act.eval]) (fun w1 hS => (least b.lo b.hi w1).eq (by rw [pmin_le h3])) ?_
  simp only [Act.put, List.setIfInBounds_toArray, List.set_cons_zero, List.set_cons_succ]
  iterate 4 (refine SeqO.val (v := ?_) (by rfl) (by rfl) (fun w1 hS => ?_) ?_; rotate_left; (· obtain ⟨hc, hcf⟩ := bcell hS; go_simp; try with_reducible rfl); simp only [Act.put, List.setIfInBounds_toArray, List.set_cons_zero, List.set_cons_succ])
  refine SeqO.nil0 fun w1 hS => ?_
  obtain ⟨hc, hcf⟩ := bcell hS
  refine Ph.last ?_
  simp only [List.drop_succ_cons, List.drop_zero]
  go_wp2
  go_ret
  exact ⟨rfl, ((Below.refl _ _).alloc (Nat.le_refl _) _).trans (hS.mono (by simp))⟩
set_option maxHeartbeats 1000000 in
theorem bcheck_no (b : Bd) (w : World) (h : ¬ b.ok) : RetB Try.prog 12 #[.agg #[.int .i64 b.lo.x, .int .i64 b.lo.y, .int .i64 b.lo.z, .int .i64 b.hi.x, .int .i64 b.hi.y, .int .i64 b.hi.z]] w (.int .i64 7) := by
  unfold Bd.ok at h
  unfold RetB
  by_cases h1 : b.lo.ok
  · by_cases h2 : b.hi.ok
    · have h3 : ¬ b.lo.le b.hi := fun h3 => h ⟨h1, h2, h3⟩
      clear h
      rcases pmin_nle h3 with h4 | ⟨h5, h4⟩ | ⟨h5, h6, h4⟩
      all_goals
        go_enter Try.func12, Try.ntmps12
        go_wp2
        refine wp_region_ph [(20, .free [])] (by kernel_rfl) (by kernel_rfl) ?_
        refine Ph.belowd ?_
        simp only [List.drop_succ_cons, List.drop_zero, List.take_succ_cons, List.take_zero, Nat.reduceSub, Nat.sub_zero]
        iterate 2 (refine SeqO.val (v := ?_) (by rfl) (by rfl) (fun w1 hS => ?_) ?_; rotate_left; (· obtain ⟨hc, hcf⟩ := bcell hS; go_simp; try with_reducible rfl); simp only [Act.put, List.setIfInBounds_toArray, List.set_cons_zero, List.set_cons_succ])
        refine SeqO.callv (by rfl) (by rfl) (by rfl) cf30 (by simp [Act.eval]) (fun w1 hS => gcheck_ok b.lo w1 h1) ?_
        simp only [Act.put, List.setIfInBounds_toArray, List.set_cons_zero, List.set_cons_succ]
        iterate 4 (refine SeqO.val (v := ?_) (by rfl) (by rfl) (fun w1 hS => ?_) ?_; rotate_left; (· obtain ⟨hc, hcf⟩ := bcell hS; go_simp; try with_reducible rfl); simp only [Act.put, List.setIfInBounds_toArray, List.set_cons_zero, List.set_cons_succ])
        refine SeqO.callv (by rfl) (by rfl) (by rfl) cf30 (by simp [Act.eval]) (fun w1 hS => gcheck_ok b.hi w1 h2) ?_
        simp only [Act.put, List.setIfInBounds_toArray, List.set_cons_zero, List.set_cons_succ]
        iterate 3 (refine SeqO.val (v := ?_) (by rfl) (by rfl) (fun w1 hS => ?_) ?_; rotate_left; (· obtain ⟨hc, hcf⟩ := bcell hS; go_simp; try with_reducible rfl); simp only [Act.put, List.setIfInBounds_toArray, List.set_cons_zero, List.set_cons_succ])
        iterate 4 (refine SeqO.val (v := ?_) (by rfl) (by rfl) (fun w1 hS => ?_) ?_; rotate_left; (· obtain ⟨hc, hcf⟩ := bcell hS; go_simp; try with_reducible rfl); simp only [Act.put, List.setIfInBounds_toArray, List.set_cons_zero, List.set_cons_succ])
        refine SeqO.callv (by rfl) (by rfl) (by rfl) cf31 (by simp [Act.eval]) (fun w1 hS => least b.lo b.hi w1) ?_
        simp only [Act.put, List.setIfInBounds_toArray, List.set_cons_zero, List.set_cons_succ]
        iterate 4 (refine SeqO.val (v := ?_) (by rfl) (by rfl) (fun w1 hS => ?_) ?_; rotate_left; (· obtain ⟨hc, hcf⟩ := bcell hS; go_simp; try with_reducible rfl); simp only [Act.put, List.setIfInBounds_toArray, List.set_cons_zero, List.set_cons_succ])
        refine SeqO.nil0 fun w1 hS => ?_
        obtain ⟨hc, hcf⟩ := bcell hS
        refine Ph.last ?_
        simp only [List.drop_succ_cons, List.drop_zero]
        go_wp2
        go_ret
        exact ⟨rfl, ((Below.refl _ _).alloc (Nat.le_refl _) _).trans (hS.mono (by simp))⟩
    · clear h
      go_enter Try.func12, Try.ntmps12
      go_wp2
      refine wp_region_ph [(20, .free [])] (by kernel_rfl) (by kernel_rfl) ?_
      refine Ph.belowd ?_
      simp only [List.drop_succ_cons, List.drop_zero, List.take_succ_cons, List.take_zero, Nat.reduceSub, Nat.sub_zero]
      iterate 2 (refine SeqO.val (v := ?_) (by rfl) (by rfl) (fun w1 hS => ?_) ?_; rotate_left; (· obtain ⟨hc, hcf⟩ := bcell hS; go_simp; try with_reducible rfl); simp only [Act.put, List.setIfInBounds_toArray, List.set_cons_zero, List.set_cons_succ])
      refine SeqO.callv (by rfl) (by rfl) (by rfl) cf30 (by simp [Act.eval]) (fun w1 hS => gcheck_ok b.lo w1 h1) ?_
      simp only [Act.put, List.setIfInBounds_toArray, List.set_cons_zero, List.set_cons_succ]
      iterate 4 (refine SeqO.val (v := ?_) (by rfl) (by rfl) (fun w1 hS => ?_) ?_; rotate_left; (· obtain ⟨hc, hcf⟩ := bcell hS; go_simp; try with_reducible rfl); simp only [Act.put, List.setIfInBounds_toArray, List.set_cons_zero, List.set_cons_succ])
      refine SeqO.callv (by rfl) (by rfl) (by rfl) cf30 (by simp [Act.eval]) (fun w1 hS => gcheck_no b.hi w1 h2) ?_
      simp only [Act.put, List.setIfInBounds_toArray, List.set_cons_zero, List.set_cons_succ]
      iterate 3 (refine SeqO.val (v := ?_) (by rfl) (by rfl) (fun w1 hS => ?_) ?_; rotate_left; (· obtain ⟨hc, hcf⟩ := bcell hS; go_simp; try with_reducible rfl); simp only [Act.put, List.setIfInBounds_toArray, List.set_cons_zero, List.set_cons_succ])
      iterate 8 (refine SeqO.skip (by rfl) (by rfl) ?_; simp only [Act.put, List.setIfInBounds_toArray, List.set_cons_zero, List.set_cons_succ])
      iterate 1 (refine SeqO.val (v := ?_) (by rfl) (by rfl) (fun w1 hS => ?_) ?_; rotate_left; (· obtain ⟨hc, hcf⟩ := bcell hS; go_simp; try with_reducible rfl); simp only [Act.put, List.setIfInBounds_toArray, List.set_cons_zero, List.set_cons_succ])
      refine SeqO.nil0 fun w1 hS => ?_
      obtain ⟨hc, hcf⟩ := bcell hS
      refine Ph.last ?_
      simp only [List.drop_succ_cons, List.drop_zero]
      go_wp2
      go_ret
      exact ⟨rfl, ((Below.refl _ _).alloc (Nat.le_refl _) _).trans (hS.mono (by simp))⟩
  · clear h
    go_enter Try.func12, Try.ntmps12
    go_wp2
    refine wp_region_ph [(20, .free [])] (by kernel_rfl) (by kernel_rfl) ?_
    refine Ph.belowd ?_
    simp only [List.drop_succ_cons, List.drop_zero, List.take_succ_cons, List.take_zero, Nat.reduceSub, Nat.sub_zero]
    iterate 2 (refine SeqO.val (v := ?_) (by rfl) (by rfl) (fun w1 hS => ?_) ?_; rotate_left; (· obtain ⟨hc, hcf⟩ := bcell hS; go_simp; try with_reducible rfl); simp only [Act.put, List.setIfInBounds_toArray, List.set_cons_zero, List.set_cons_succ])
    refine SeqO.callv (by rfl) (by rfl) (by rfl) cf30 (by simp [Act.eval]) (fun w1 hS => gcheck_no b.lo w1 h1) ?_
    simp only [Act.put, List.setIfInBounds_toArray, List.set_cons_zero, List.set_cons_succ]
    iterate 2 (refine SeqO.val (v := ?_) (by rfl) (by rfl) (fun w1 hS => ?_) ?_; rotate_left; (· obtain ⟨hc, hcf⟩ := bcell hS; go_simp; try with_reducible rfl); simp only [Act.put, List.setIfInBounds_toArray, List.set_cons_zero, List.set_cons_succ])
    iterate 4 (refine SeqO.skip (by rfl) (by rfl) ?_; simp only [Act.put, List.setIfInBounds_toArray, List.set_cons_zero, List.set_cons_succ])
    iterate 2 (refine SeqO.val (v := ?_) (by rfl) (by rfl) (fun w1 hS => ?_) ?_; rotate_left; (· obtain ⟨hc, hcf⟩ := bcell hS; go_simp; try with_reducible rfl); simp only [Act.put, List.setIfInBounds_toArray, List.set_cons_zero, List.set_cons_succ])
    iterate 8 (refine SeqO.skip (by rfl) (by rfl) ?_; simp only [Act.put, List.setIfInBounds_toArray, List.set_cons_zero, List.set_cons_succ])
    iterate 1 (refine SeqO.val (v := ?_) (by rfl) (by rfl) (fun w1 hS => ?_) ?_; rotate_left; (· obtain ⟨hc, hcf⟩ := bcell hS; go_simp; try with_reducible rfl); simp only [Act.put, List.setIfInBounds_toArray, List.set_cons_zero, List.set_cons_succ])
    refine SeqO.nil0 fun w1 hS => ?_
    obtain ⟨hc, hcf⟩ := bcell hS
    refine Ph.last ?_
    simp only [List.drop_succ_cons, List.drop_zero]
    go_wp2
    go_ret
    exact ⟨rfl, ((Below.refl _ _).alloc (Nat.le_refl _) _).trans (hS.mono (by simp))⟩

/-- A row of cells. -/
def At (w : World) (b : Nat) (l : List Value) : Prop := ∀ j v, l[j]? = some v → w.cell? ⟨b, j, none⟩ = some v
theorem at_alloc {w : World} {l : List Value} {T : TypeId} : At (w.alloc (.cells l.toArray T)) w.heap.size l := by
  intro j v h
  rw [World.cell?_alloc_new]
  simpa using h
theorem at_new {w : World} {l : List Value} {T : TypeId} {n : Nat} (hn : n = w.heap.size) : At (w.alloc (.cells l.toArray T)) n l := hn ▸ at_alloc
theorem At.below {W w1 : World} {b : Nat} {l : List Value} (h : At W b l) (hb : b < W.heap.size) (hS : Below W.heap.size W w1) : At w1 b l := fun j v hj => by
  rw [(bcell hS).1 b j hb]; exact h j v hj
theorem At.alloc {W : World} {b : Nat} {l : List Value} (h : At W b l) (hb : b < W.heap.size) (o : Obj) : At (W.alloc o) b l := fun j v hj => by
  rw [World.cell?_alloc_past _ _ _ hb]; exact h j v hj
set_option maxHeartbeats 1000000 in
theorem may1_ok (a : Bd) (blk : Nat) (w : World) (hA : At w blk [.int .i64 a.lo.x, .int .i64 a.lo.y, .int .i64 a.lo.z, .int .i64 a.hi.x, .int .i64 a.hi.y, .int .i64 a.hi.z]) (h : a.ok) : RetB Try.prog 32 #[.slice (some ⟨blk, 0, none⟩) 1 1] w (.bool true) := by
  have a0 := hA (0 + 0) _ rfl; have a1 := hA (1 + 0) _ rfl; have a2 := hA (2 + 0) _ rfl; have a3 := hA (3 + 0) _ rfl; have a4 := hA (4 + 0) _ rfl; have a5 := hA (5 + 0) _ rfl
  clear hA
  unfold RetB
  go_enter Try.func32, Try.ntmps32
  go_wp2
  refine wp_loop_rounds 2 ?_
  rw [rounds_succ]; go_wp2_with fail
  refine (bcheck_ok a _ h).mono ?_
  rintro e w1 ⟨rfl, hS⟩
  go_wp2
  rw [rounds_succ]; go_wp2
  go_ret
  exact ⟨rfl, ((Below.refl _ _).alloc (Nat.le_refl _) _).trans (hS.mono (by simp))⟩
set_option maxHeartbeats 1000000 in
theorem may1_no (a : Bd) (blk : Nat) (w : World) (hA : At w blk [.int .i64 a.lo.x, .int .i64 a.lo.y, .int .i64 a.lo.z, .int .i64 a.hi.x, .int .i64 a.hi.y, .int .i64 a.hi.z]) (h : ¬ a.ok) : RetB Try.prog 32 #[.slice (some ⟨blk, 0, none⟩) 1 1] w (.bool false) := by
  have a0 := hA (0 + 0) _ rfl; have a1 := hA (1 + 0) _ rfl; have a2 := hA (2 + 0) _ rfl; have a3 := hA (3 + 0) _ rfl; have a4 := hA (4 + 0) _ rfl; have a5 := hA (5 + 0) _ rfl
  clear hA
  unfold RetB
  go_enter Try.func32, Try.ntmps32
  go_wp2
  refine wp_loop_rounds 2 ?_
  rw [rounds_succ]; go_wp2_with fail
  refine (bcheck_no a _ h).mono ?_
  rintro e w1 ⟨rfl, hS⟩
  go_wp2
  go_ret
  exact ⟨rfl, ((Below.refl _ _).alloc (Nat.le_refl _) _).trans (hS.mono (by simp))⟩
set_option maxHeartbeats 1000000 in
theorem may2_ok (a b : Bd) (blk : Nat) (w : World) (hb : blk < w.heap.size) (hA : At w blk [.int .i64 a.lo.x, .int .i64 a.lo.y, .int .i64 a.lo.z, .int .i64 a.hi.x, .int .i64 a.hi.y, .int .i64 a.hi.z, .int .i64 b.lo.x, .int .i64 b.lo.y, .int .i64 b.lo.z, .int .i64 b.hi.x, .int .i64 b.hi.y, .int .i64 b.hi.z]) (h : a.ok ∧ b.ok) : RetB Try.prog 32 #[.slice (some ⟨blk, 0, none⟩) 2 2] w (.bool true) := by
  obtain ⟨h, h'⟩ := h
  unfold RetB
  have a0 := hA (0 + 0) _ rfl; have a1 := hA (1 + 0) _ rfl; have a2 := hA (2 + 0) _ rfl; have a3 := hA (3 + 0) _ rfl; have a4 := hA (4 + 0) _ rfl; have a5 := hA (5 + 0) _ rfl
  have HA := Lib.hid hA
  clear hA
  go_enter Try.func32, Try.ntmps32
  go_wp2
  refine wp_loop_rounds 3 ?_
  rw [rounds_succ]; go_wp2_with fail
  refine (bcheck_ok a _ h).mono ?_
  rintro e w1 ⟨rfl, hS⟩
  clear a0 a1 a2 a3 a4 a5
  have HA1 := Lib.hid ((HA.out.alloc hb _).below (by simp; omega) hS)
  have hz : w.heap.size < w1.heap.size := by have := hS.size; simp at this; omega
  have a0 := HA1.out (0 + 6) _ rfl; have a1 := HA1.out (1 + 6) _ rfl; have a2 := HA1.out (2 + 6) _ rfl; have a3 := HA1.out (3 + 6) _ rfl; have a4 := HA1.out (4 + 6) _ rfl; have a5 := HA1.out (5 + 6) _ rfl
  go_wp2
  rw [rounds_succ]; go_wp2_with fail
  refine (bcheck_ok b _ h').mono ?_
  rintro e w2 ⟨rfl, hS2⟩
  go_wp2
  rw [rounds_succ]; go_wp2
  go_ret
  exact ⟨rfl, ((((Below.refl _ _).alloc (Nat.le_refl _) _).trans (hS.mono (by simp))).alloc (by omega) _).trans (hS2.mono (by simp; omega))⟩
set_option maxHeartbeats 1000000 in
theorem may2_no (a b : Bd) (blk : Nat) (w : World) (hb : blk < w.heap.size) (hA : At w blk [.int .i64 a.lo.x, .int .i64 a.lo.y, .int .i64 a.lo.z, .int .i64 a.hi.x, .int .i64 a.hi.y, .int .i64 a.hi.z, .int .i64 b.lo.x, .int .i64 b.lo.y, .int .i64 b.lo.z, .int .i64 b.hi.x, .int .i64 b.hi.y, .int .i64 b.hi.z]) (h : ¬ (a.ok ∧ b.ok)) : RetB Try.prog 32 #[.slice (some ⟨blk, 0, none⟩) 2 2] w (.bool false) := by
  unfold RetB
  have a0 := hA (0 + 0) _ rfl; have a1 := hA (1 + 0) _ rfl; have a2 := hA (2 + 0) _ rfl; have a3 := hA (3 + 0) _ rfl; have a4 := hA (4 + 0) _ rfl; have a5 := hA (5 + 0) _ rfl
  have HA := Lib.hid hA
  clear hA
  by_cases ha : a.ok
  · have h' : ¬ b.ok := fun hb => h ⟨ha, hb⟩
    clear h
    go_enter Try.func32, Try.ntmps32
    go_wp2
    refine wp_loop_rounds 3 ?_
    rw [rounds_succ]; go_wp2_with fail
    refine (bcheck_ok a _ ha).mono ?_
    rintro e w1 ⟨rfl, hS⟩
    clear a0 a1 a2 a3 a4 a5
    have HA1 := Lib.hid ((HA.out.alloc hb _).below (by simp; omega) hS)
    have hz : w.heap.size < w1.heap.size := by have := hS.size; simp at this; omega
    have a0 := HA1.out (0 + 6) _ rfl; have a1 := HA1.out (1 + 6) _ rfl; have a2 := HA1.out (2 + 6) _ rfl; have a3 := HA1.out (3 + 6) _ rfl; have a4 := HA1.out (4 + 6) _ rfl; have a5 := HA1.out (5 + 6) _ rfl
    go_wp2
    rw [rounds_succ]; go_wp2_with fail
    refine (bcheck_no b _ h').mono ?_
    rintro e w2 ⟨rfl, hS2⟩
    go_wp2
    go_ret
    exact ⟨rfl, ((((Below.refl _ _).alloc (Nat.le_refl _) _).trans (hS.mono (by simp))).alloc (by omega) _).trans (hS2.mono (by simp; omega))⟩
  · clear h
    go_enter Try.func32, Try.ntmps32
    go_wp2
    refine wp_loop_rounds 3 ?_
    rw [rounds_succ]; go_wp2_with fail
    refine (bcheck_no a _ ha).mono ?_
    rintro e w1 ⟨rfl, hS⟩
    go_wp2
    go_ret
    exact ⟨rfl, ((Below.refl _ _).alloc (Nat.le_refl _) _).trans (hS.mono (by simp))⟩
end Go.Proofs.Ytbcjnckejkjfeaa
