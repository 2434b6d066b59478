/- What the functions of bounds answer: their walks, third part. No condition. -/
import Derived.Test.YtbcjnckejkjfeaaBnd2
namespace Go.Proofs.Ytbcjnckejkjfeaa
set_option linter.unusedVariables false
set_option linter.unusedSimpArgs false
open Go.RowKit Go.NP
theorem cf56 (args : Array Value) (w1 : World) : (callFunc 56 args).run Try.prog w1 = .ok (.enter 56 args) w1 := enters Try.func56 (by kernel_rfl) (by kernel_rfl) args w1
theorem cf39 (args : Array Value) (w1 : World) : (callFunc 39 args).run Try.prog w1 = .ok (.enter 39 args) w1 := enters Try.func39 (by kernel_rfl) (by kernel_rfl) args w1
theorem cf55 (args : Array Value) (w1 : World) : (callFunc 55 args).run Try.prog w1 = .ok (.enter 55 args) w1 := enters Try.func55 (by kernel_rfl) (by kernel_rfl) args w1
theorem cf41 (args : Array Value) (w1 : World) : (callFunc 41 args).run Try.prog w1 = .ok (.enter 41 args) w1 := enters Try.func41 (by kernel_rfl) (by kernel_rfl) args w1
theorem cf14 (args : Array Value) (w1 : World) : (callFunc 14 args).run Try.prog w1 = .ok (.enter 14 args) w1 := enters Try.func14 (by kernel_rfl) (by kernel_rfl) args w1
theorem join_ok {a b : Bd} (h : a.ok ∧ b.ok) : join a b = ⟨pmin a.lo b.lo, pmax a.hi b.hi⟩ := if_pos h
theorem join_no {a b : Bd} (h : ¬ (a.ok ∧ b.ok)) : join a b = bzero := if_neg h
theorem size_ok {a : Bd} (h : a.ok) : size a = a.hi.x - a.lo.x + a.hi.y - a.lo.y + a.hi.z - a.lo.z := if_pos h
theorem size_no {a : Bd} (h : ¬ a.ok) : size a = 0 := if_neg h

set_option maxHeartbeats 1000000 in
theorem sizeC (a : Bd) (w : World) : RetB Try.prog 55 #[.agg #[.int .i64 a.lo.x, .int .i64 a.lo.y, .int .i64 a.lo.z, .int .i64 a.hi.x, .int .i64 a.hi.y, .int .i64 a.hi.z]] w (.int .i64 (size a)) := by
  by_cases h : a.ok
  · rw [size_ok h]
    have h' := h
    obtain ⟨⟨⟨x1, x2⟩, ⟨y1, y2⟩, ⟨z1, z2⟩⟩, ⟨⟨x3, x4⟩, ⟨y3, y4⟩, ⟨z3, z4⟩⟩, _⟩ := h'
    unfold RetB
    go_enter Try.func55, Try.ntmps55
    go_wp2_with fail
    refine (may1_ok a _ _ (by exact at_new (by simp)) h).mono ?_
    rintro e w1 ⟨rfl, hS⟩
    obtain ⟨hc, hcf⟩ := bcell hS
    go_wp2
    go_ret
    exact ⟨rfl, (((Below.refl _ _).alloc (Nat.le_refl _) _).alloc (by simp) _).trans (hS.mono (by simp; omega))⟩
  · rw [size_no h]
    unfold RetB
    go_enter Try.func55, Try.ntmps55
    go_wp2_with fail
    refine (may1_no a _ _ (by exact at_new (by simp)) h).mono ?_
    rintro e w1 ⟨rfl, hS⟩
    go_wp2
    go_ret
    exact ⟨rfl, (((Below.refl _ _).alloc (Nat.le_refl _) _).alloc (by simp) _).trans (hS.mono (by simp; omega))⟩
set_option maxHeartbeats 1000000 in
theorem joinC (a b : Bd) (w : World) : RetB Try.prog 56 #[.agg #[.int .i64 a.lo.x, .int .i64 a.lo.y, .int .i64 a.lo.z, .int .i64 a.hi.x, .int .i64 a.hi.y, .int .i64 a.hi.z], .agg #[.int .i64 b.lo.x, .int .i64 b.lo.y, .int .i64 b.lo.z, .int .i64 b.hi.x, .int .i64 b.hi.y, .int .i64 b.hi.z]] w (.agg #[.int .i64 (join a b).lo.x, .int .i64 (join a b).lo.y, .int .i64 (join a b).lo.z, .int .i64 (join a b).hi.x, .int .i64 (join a b).hi.y, .int .i64 (join a b).hi.z]) := by
  by_cases h : a.ok ∧ b.ok
  · rw [join_ok h]
    unfold RetB
    go_enter Try.func56, Try.ntmps56
    go_wp2_with fail
    refine (may2_ok a b _ _ (by simp) (by exact at_new (by simp)) h).mono ?_
    rintro e w1 ⟨rfl, hS⟩
    have hW : Below w.heap.size w w1 := (((((Below.refl _ _).alloc (Nat.le_refl _) _).alloc (by simp) _).alloc (by simp; omega) _).alloc (by simp; omega) _).trans (hS.mono (by simp; omega))
    have hz0 : w.heap.size < w1.heap.size := by have := (hS).size; simp at this; omega
    have hz1 : w.heap.size + 1 < w1.heap.size := by have := (hS).size; simp at this; omega
    have hz2 : w.heap.size + 1 + 1 < w1.heap.size := by have := (hS).size; simp at this; omega
    obtain ⟨hc, hcf⟩ := bcell hS
    go_wp2
    refine wp_region_ph [(11, .free [])] (by kernel_rfl) (by kernel_rfl) ?_
    refine Ph.belowd ?_
    simp only [List.drop_succ_cons, List.drop_zero, List.take_succ_cons, List.take_zero, Nat.reduceSub, Nat.sub_zero]
    iterate 4 (refine SeqO.val (v := ?_) (by rfl) (by rfl) (fun w1 hS => ?_) ?_; rotate_left; (· obtain ⟨hc, hcf⟩ := bcell hS; go_simp; try with_reducible rfl); simp only [Act.put, List.setIfInBounds_toArray, List.set_cons_zero, List.set_cons_succ])
    refine SeqO.callv (by rfl) (by rfl) (by rfl) cf31 (by simp [Act.eval]) (fun w1 hS => least a.lo b.lo w1) ?_
    simp only [Act.put, List.setIfInBounds_toArray, List.set_cons_zero, List.set_cons_succ]
    iterate 4 (refine SeqO.val (v := ?_) (by rfl) (by rfl) (fun w1 hS => ?_) ?_; rotate_left; (· obtain ⟨hc, hcf⟩ := bcell hS; go_simp; try with_reducible rfl); simp only [Act.put, List.setIfInBounds_toArray, List.set_cons_zero, List.set_cons_succ])
    refine SeqO.callv (by rfl) (by rfl) (by rfl) cf33 (by simp [Act.eval]) (fun w1 hS => most a.hi b.hi w1) ?_
    simp only [Act.put, List.setIfInBounds_toArray, List.set_cons_zero, List.set_cons_succ]
    iterate 1 (refine SeqO.val (v := ?_) (by rfl) (by rfl) (fun w1 hS => ?_) ?_; rotate_left; (· obtain ⟨hc, hcf⟩ := bcell hS; go_simp; try with_reducible rfl); simp only [Act.put, List.setIfInBounds_toArray, List.set_cons_zero, List.set_cons_succ])
    refine SeqO.nil0 fun w2 hS2 => ?_
    obtain ⟨hc2, hcf2⟩ := bcell hS2
    refine Ph.last ?_
    simp only [List.drop_succ_cons, List.drop_zero, List.take_succ_cons, List.take_zero, Nat.reduceSub, Nat.sub_zero]
    go_wp2
    exact bodyPost_ret (v := .agg #[.int .i64 (⟨pmin a.lo b.lo, pmax a.hi b.hi⟩ : Bd).lo.x, .int .i64 (⟨pmin a.lo b.lo, pmax a.hi b.hi⟩ : Bd).lo.y, .int .i64 (⟨pmin a.lo b.lo, pmax a.hi b.hi⟩ : Bd).lo.z, .int .i64 (⟨pmin a.lo b.lo, pmax a.hi b.hi⟩ : Bd).hi.x, .int .i64 (⟨pmin a.lo b.lo, pmax a.hi b.hi⟩ : Bd).hi.y, .int .i64 (⟨pmin a.lo b.lo, pmax a.hi b.hi⟩ : Bd).hi.z]) (by simp [results, Try.results56, go_sem, *]) rfl ⟨rfl, ((((((hW.trans (hS2.mono (by omega))).setCell (by first | omega | (simp; done) | (simp; omega)) _).setCell (by first | omega | (simp; done) | (simp; omega)) _).setCell (by first | omega | (simp; done) | (simp; omega)) _).setCell (by first | omega | (simp; done) | (simp; omega)) _).setCell (by first | omega | (simp; done) | (simp; omega)) _).setCell (by first | omega | (simp; done) | (simp; omega)) _⟩
  · rw [show join a b = ⟨⟨0, 0, 0⟩, ⟨0, 0, 0⟩⟩ from join_no h]
    unfold RetB
    go_enter Try.func56, Try.ntmps56
    go_wp2_with fail
    refine (may2_no a b _ _ (by simp) (by exact at_new (by simp)) h).mono ?_
    rintro e w1 ⟨rfl, hS⟩
    have hW : Below w.heap.size w w1 := (((((Below.refl _ _).alloc (Nat.le_refl _) _).alloc (by simp) _).alloc (by simp; omega) _).alloc (by simp; omega) _).trans (hS.mono (by simp; omega))
    have hz0 : w.heap.size < w1.heap.size := by have := (hS).size; simp at this; omega
    have hz1 : w.heap.size + 1 < w1.heap.size := by have := (hS).size; simp at this; omega
    have hz2 : w.heap.size + 1 + 1 < w1.heap.size := by have := (hS).size; simp at this; omega
    obtain ⟨hc, hcf⟩ := bcell hS
    go_wp2
    exact bodyPost_ret (v := .agg #[.int .i64 (⟨⟨0, 0, 0⟩, ⟨0, 0, 0⟩⟩ : Bd).lo.x, .int .i64 (⟨⟨0, 0, 0⟩, ⟨0, 0, 0⟩⟩ : Bd).lo.y, .int .i64 (⟨⟨0, 0, 0⟩, ⟨0, 0, 0⟩⟩ : Bd).lo.z, .int .i64 (⟨⟨0, 0, 0⟩, ⟨0, 0, 0⟩⟩ : Bd).hi.x, .int .i64 (⟨⟨0, 0, 0⟩, ⟨0, 0, 0⟩⟩ : Bd).hi.y, .int .i64 (⟨⟨0, 0, 0⟩, ⟨0, 0, 0⟩⟩ : Bd).hi.z]) (by simp [results, Try.results56, go_sem, *]) rfl ⟨rfl, ((((((hW).setCell (by first | omega | (simp; done) | (simp; omega)) _).setCell (by first | omega | (simp; done) | (simp; omega)) _).setCell (by first | omega | (simp; done) | (simp; omega)) _).setCell (by first | omega | (simp; done) | (simp; omega)) _).setCell (by first | omega | (simp; done) | (simp; omega)) _).setCell (by first | omega | (simp; done) | (simp; omega)) _⟩

theorem below_size {B : Nat} {W w : World} (h : Below B W w) {n : Nat} (hn : n < W.heap.size) : n < w.heap.size := Nat.lt_of_lt_of_le hn h.size
def growAt (a : Bd) (r : Int) : Bd := ⟨⟨down a.lo.x r, down a.lo.y r, down a.lo.z r⟩, ⟨up a.hi.x r, up a.hi.y r, up a.hi.z r⟩⟩
theorem grow_ok {a : Bd} {r : Int} (h : a.ok) : grow a r = growAt a (rOk r) := if_pos h
theorem grow_no {a : Bd} {r : Int} (h : ¬ a.ok) : grow a r = ⟨⟨0, 0, 0⟩, ⟨0, 0, 0⟩⟩ := if_neg h
set_option maxHeartbeats 2000000 in
theorem growC (a : Bd) (r : Int) (w : World) : RetB Try.prog 39 #[.agg #[.int .i64 a.lo.x, .int .i64 a.lo.y, .int .i64 a.lo.z, .int .i64 a.hi.x, .int .i64 a.hi.y, .int .i64 a.hi.z], .int .i64 r] w (.agg #[.int .i64 (grow a r).lo.x, .int .i64 (grow a r).lo.y, .int .i64 (grow a r).lo.z, .int .i64 (grow a r).hi.x, .int .i64 (grow a r).hi.y, .int .i64 (grow a r).hi.z]) := by
  by_cases h : a.ok
  · rw [grow_ok h]
    have ha := h
    obtain ⟨⟨x1, y1, z1⟩, ⟨x2, y2, z2⟩, _⟩ := ha
    unfold RetB
    by_cases h0 : 0 ≤ r ∧ r ≤ 268435456
    · have e : rOk r = r := if_pos h0
      rw [e]
      obtain ⟨r0, r1⟩ := h0
      have t1 : decide (r < 0) = false := decide_eq_false (by omega)
      have t2 : decide (268435456 < r) = false := decide_eq_false (by omega)
      clear e
      go_enter Try.func39, Try.ntmps39
      go_wp2_with fail
      refine (may1_ok a _ _ (by exact at_new (by simp)) h).mono ?_
      rintro e w1 ⟨rfl, hS⟩
      have hW : Below w.heap.size w w1 := (((((Below.refl _ _).alloc (Nat.le_refl _) _).alloc (by simp) _).alloc (by simp; omega) _).alloc (by simp; omega) _).trans (hS.mono (by simp; omega))
      have hz0 : w.heap.size < w1.heap.size := by have := (hS).size; simp at this; omega
      have hz1 : w.heap.size + 1 < w1.heap.size := by have := (hS).size; simp at this; omega
      have hz2 : w.heap.size + 1 + 1 < w1.heap.size := by have := (hS).size; simp at this; omega
      obtain ⟨hc, hcf⟩ := bcell hS
      go_wp2
      have hcell : ∀ w2 w3, Below (w1.alloc (.cells #[.int .i64 268435456, .int .i64 268435456, .int .i64 268435456] 33)).heap.size (w1.alloc (.cells #[.int .i64 268435456, .int .i64 268435456, .int .i64 268435456] 33)) w2 → Below w2.heap.size w2 w3 → w3.cell? ⟨w.heap.size + 1, 0, none⟩ = some (.int .i64 r) := fun w2 w3 h2 h3 => by
          rw [(bcell h3).1 _ _ (below_size h2 (by simp; omega)), (bcell h2).1 _ _ (by simp; omega)]
          go_simp
      have HC := Lib.hid hcell; clear hcell
      refine wp_region_ph [(11, .free [])] (by kernel_rfl) (by kernel_rfl) ?_
      refine Ph.belowd ?_
      simp only [List.drop_succ_cons, List.drop_zero, List.take_succ_cons, List.take_zero, Nat.reduceSub, Nat.sub_zero]
      iterate 4 (refine SeqO.val (v := ?_) (by rfl) (by rfl) (fun w1 hS => ?_) ?_; rotate_left; (· obtain ⟨hc, hcf⟩ := bcell hS; go_simp; try with_reducible rfl); simp only [Act.put, List.setIfInBounds_toArray, List.set_cons_zero, List.set_cons_succ])
      refine SeqO.callv (by rfl) (by rfl) (by rfl) cf45 (by simp [Act.eval]) (fun w1 hS => each 52 #[.pointer (some ⟨w.heap.size + 1, 0, none⟩)] cf52 a.lo (⟨268435456, 268435456, 268435456⟩ : Pt) (growAt a r).lo w1 (fun w3 hb => growl _ _ _ _ (HC.out _ _ hS hb) x1 (by omega) (by omega)) (fun w3 hb => growl _ _ _ _ (HC.out _ _ hS hb) y1 (by omega) (by omega)) (fun w3 hb => growl _ _ _ _ (HC.out _ _ hS hb) z1 (by omega) (by omega))) ?_
      simp only [Act.put, List.setIfInBounds_toArray, List.set_cons_zero, List.set_cons_succ]
      iterate 4 (refine SeqO.val (v := ?_) (by rfl) (by rfl) (fun w1 hS => ?_) ?_; rotate_left; (· obtain ⟨hc, hcf⟩ := bcell hS; go_simp; try with_reducible rfl); simp only [Act.put, List.setIfInBounds_toArray, List.set_cons_zero, List.set_cons_succ])
      refine SeqO.callv (by rfl) (by rfl) (by rfl) cf45 (by simp [Act.eval]) (fun w1 hS => each 53 #[.pointer (some ⟨w.heap.size + 1, 0, none⟩)] cf53 a.hi (⟨268435456, 268435456, 268435456⟩ : Pt) (growAt a r).hi w1 (fun w3 hb => growh _ _ _ _ (HC.out _ _ hS hb) x2 (by omega) (by omega)) (fun w3 hb => growh _ _ _ _ (HC.out _ _ hS hb) y2 (by omega) (by omega)) (fun w3 hb => growh _ _ _ _ (HC.out _ _ hS hb) z2 (by omega) (by omega))) ?_
      simp only [Act.put, List.setIfInBounds_toArray, List.set_cons_zero, List.set_cons_succ]
      iterate 1 (refine SeqO.val (v := ?_) (by rfl) (by rfl) (fun w1 hS => ?_) ?_; rotate_left; (· obtain ⟨hc, hcf⟩ := bcell hS; go_simp; try with_reducible rfl); simp only [Act.put, List.setIfInBounds_toArray, List.set_cons_zero, List.set_cons_succ])
      refine SeqO.nil0 fun w2 hS2 => ?_
      obtain ⟨hc2, hcf2⟩ := bcell hS2
      refine Ph.last ?_
      simp only [List.drop_succ_cons, List.drop_zero, List.take_succ_cons, List.take_zero, Nat.reduceSub, Nat.sub_zero]
      go_wp2
      exact bodyPost_ret (v := .agg #[.int .i64 (growAt a r).lo.x, .int .i64 (growAt a r).lo.y, .int .i64 (growAt a r).lo.z, .int .i64 (growAt a r).hi.x, .int .i64 (growAt a r).hi.y, .int .i64 (growAt a r).hi.z]) (by simp [results, Try.results39, go_sem, *]) rfl ⟨rfl, (((((((hW.alloc (by omega) _).trans (hS2.mono (by simp; omega))).setCell (by first | omega | (simp; done) | (simp; omega)) _).setCell (by first | omega | (simp; done) | (simp; omega)) _).setCell (by first | omega | (simp; done) | (simp; omega)) _).setCell (by first | omega | (simp; done) | (simp; omega)) _).setCell (by first | omega | (simp; done) | (simp; omega)) _).setCell (by first | omega | (simp; done) | (simp; omega)) _⟩
    · have e : rOk r = 0 := if_neg h0
      rw [e]
      clear e
      have tt : (decide (r < 0) = true) ∨ (decide (r < 0) = false ∧ decide (268435456 < r) = true) := by
        by_cases q : r < 0
        · exact .inl (decide_eq_true q)
        · exact .inr ⟨decide_eq_false q, decide_eq_true (by omega)⟩
      clear h0
      rcases tt with t1 | ⟨t1, t2⟩
      all_goals
        go_enter Try.func39, Try.ntmps39
        go_wp2_with fail
        refine (may1_ok a _ _ (by exact at_new (by simp)) h).mono ?_
        rintro e w1 ⟨rfl, hS⟩
        have hW : Below w.heap.size w w1 := (((((Below.refl _ _).alloc (Nat.le_refl _) _).alloc (by simp) _).alloc (by simp; omega) _).alloc (by simp; omega) _).trans (hS.mono (by simp; omega))
        have hz0 : w.heap.size < w1.heap.size := by have := (hS).size; simp at this; omega
        have hz1 : w.heap.size + 1 < w1.heap.size := by have := (hS).size; simp at this; omega
        have hz2 : w.heap.size + 1 + 1 < w1.heap.size := by have := (hS).size; simp at this; omega
        obtain ⟨hc, hcf⟩ := bcell hS
        go_wp2
        have hcell : ∀ w2 w3, Below ((w1.setCell ⟨w.heap.size + 1, 0, none⟩ (.int .i64 0)).alloc (.cells #[.int .i64 268435456, .int .i64 268435456, .int .i64 268435456] 33)).heap.size ((w1.setCell ⟨w.heap.size + 1, 0, none⟩ (.int .i64 0)).alloc (.cells #[.int .i64 268435456, .int .i64 268435456, .int .i64 268435456] 33)) w2 → Below w2.heap.size w2 w3 → w3.cell? ⟨w.heap.size + 1, 0, none⟩ = some (.int .i64 0) := fun w2 w3 h2 h3 => by
            rw [(bcell h3).1 _ _ (below_size h2 (by simp; omega)), (bcell h2).1 _ _ (by simp; omega)]
            go_simp
        have HC := Lib.hid hcell; clear hcell
        refine wp_region_ph [(11, .free [])] (by kernel_rfl) (by kernel_rfl) ?_
        refine Ph.belowd ?_
        simp only [List.drop_succ_cons, List.drop_zero, List.take_succ_cons, List.take_zero, Nat.reduceSub, Nat.sub_zero]
        iterate 4 (refine SeqO.val (v := ?_) (by rfl) (by rfl) (fun w1 hS => ?_) ?_; rotate_left; (· obtain ⟨hc, hcf⟩ := bcell hS; go_simp; try with_reducible rfl); simp only [Act.put, List.setIfInBounds_toArray, List.set_cons_zero, List.set_cons_succ])
        refine SeqO.callv (by rfl) (by rfl) (by rfl) cf45 (by simp [Act.eval]) (fun w1 hS => each 52 #[.pointer (some ⟨w.heap.size + 1, 0, none⟩)] cf52 a.lo (⟨268435456, 268435456, 268435456⟩ : Pt) (growAt a 0).lo w1 (fun w3 hb => growl _ _ _ _ (HC.out _ _ hS hb) x1 (by omega) (by omega)) (fun w3 hb => growl _ _ _ _ (HC.out _ _ hS hb) y1 (by omega) (by omega)) (fun w3 hb => growl _ _ _ _ (HC.out _ _ hS hb) z1 (by omega) (by omega))) ?_
        simp only [Act.put, List.setIfInBounds_toArray, List.set_cons_zero, List.set_cons_succ]
        iterate 4 (refine SeqO.val (v := ?_) (by rfl) (by rfl) (fun w1 hS => ?_) ?_; rotate_left; (· obtain ⟨hc, hcf⟩ := bcell hS; go_simp; try with_reducible rfl); simp only [Act.put, List.setIfInBounds_toArray, List.set_cons_zero, List.set_cons_succ])
        refine SeqO.callv (by rfl) (by rfl) (by rfl) cf45 (by simp [Act.eval]) (fun w1 hS => each 53 #[.pointer (some ⟨w.heap.size + 1, 0, none⟩)] cf53 a.hi (⟨268435456, 268435456, 268435456⟩ : Pt) (growAt a 0).hi w1 (fun w3 hb => growh _ _ _ _ (HC.out _ _ hS hb) x2 (by omega) (by omega)) (fun w3 hb => growh _ _ _ _ (HC.out _ _ hS hb) y2 (by omega) (by omega)) (fun w3 hb => growh _ _ _ _ (HC.out _ _ hS hb) z2 (by omega) (by omega))) ?_
        simp only [Act.put, List.setIfInBounds_toArray, List.set_cons_zero, List.set_cons_succ]
        iterate 1 (refine SeqO.val (v := ?_) (by rfl) (by rfl) (fun w1 hS => ?_) ?_; rotate_left; (· obtain ⟨hc, hcf⟩ := bcell hS; go_simp; try with_reducible rfl); simp only [Act.put, List.setIfInBounds_toArray, List.set_cons_zero, List.set_cons_succ])
        refine SeqO.nil0 fun w2 hS2 => ?_
        obtain ⟨hc2, hcf2⟩ := bcell hS2
        refine Ph.last ?_
        simp only [List.drop_succ_cons, List.drop_zero, List.take_succ_cons, List.take_zero, Nat.reduceSub, Nat.sub_zero]
        go_wp2
        exact bodyPost_ret (v := .agg #[.int .i64 (growAt a 0).lo.x, .int .i64 (growAt a 0).lo.y, .int .i64 (growAt a 0).lo.z, .int .i64 (growAt a 0).hi.x, .int .i64 (growAt a 0).hi.y, .int .i64 (growAt a 0).hi.z]) (by simp [results, Try.results39, go_sem, *]) rfl ⟨rfl, ((((((((hW.setCell (by simp) _).alloc (by simp; omega) _).trans (hS2.mono (by simp; omega))).setCell (by first | omega | (simp; done) | (simp; omega)) _).setCell (by first | omega | (simp; done) | (simp; omega)) _).setCell (by first | omega | (simp; done) | (simp; omega)) _).setCell (by first | omega | (simp; done) | (simp; omega)) _).setCell (by first | omega | (simp; done) | (simp; omega)) _).setCell (by first | omega | (simp; done) | (simp; omega)) _⟩
  · rw [grow_no h]
    unfold RetB
    go_enter Try.func39, Try.ntmps39
    go_wp2_with fail
    refine (may1_no a _ _ (by exact at_new (by simp)) h).mono ?_
    rintro e w1 ⟨rfl, hS⟩
    have hW : Below w.heap.size w w1 := (((((Below.refl _ _).alloc (Nat.le_refl _) _).alloc (by simp) _).alloc (by simp; omega) _).alloc (by simp; omega) _).trans (hS.mono (by simp; omega))
    have hz0 : w.heap.size < w1.heap.size := by have := (hS).size; simp at this; omega
    have hz1 : w.heap.size + 1 < w1.heap.size := by have := (hS).size; simp at this; omega
    have hz2 : w.heap.size + 1 + 1 < w1.heap.size := by have := (hS).size; simp at this; omega
    obtain ⟨hc, hcf⟩ := bcell hS
    go_wp2
    exact bodyPost_ret (v := .agg #[.int .i64 (⟨⟨0, 0, 0⟩, ⟨0, 0, 0⟩⟩ : Bd).lo.x, .int .i64 (⟨⟨0, 0, 0⟩, ⟨0, 0, 0⟩⟩ : Bd).lo.y, .int .i64 (⟨⟨0, 0, 0⟩, ⟨0, 0, 0⟩⟩ : Bd).lo.z, .int .i64 (⟨⟨0, 0, 0⟩, ⟨0, 0, 0⟩⟩ : Bd).hi.x, .int .i64 (⟨⟨0, 0, 0⟩, ⟨0, 0, 0⟩⟩ : Bd).hi.y, .int .i64 (⟨⟨0, 0, 0⟩, ⟨0, 0, 0⟩⟩ : Bd).hi.z]) (by simp [results, Try.results39, go_sem, *]) rfl ⟨rfl, ((((((hW).setCell (by first | omega | (simp; done) | (simp; omega)) _).setCell (by first | omega | (simp; done) | (simp; omega)) _).setCell (by first | omega | (simp; done) | (simp; omega)) _).setCell (by first | omega | (simp; done) | (simp; omega)) _).setCell (by first | omega | (simp; done) | (simp; omega)) _).setCell (by first | omega | (simp; done) | (simp; omega)) _⟩
end Go.Proofs.Ytbcjnckejkjfeaa
