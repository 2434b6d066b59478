/- Growing twice, joins bracketed, sizes: the law's walk. No condition. -/
import Derived.Test.YtegmfmonkaimcaaLaw2
import Derived.Test.YtegmfmonkaimcaaAwk
import Derived.Deep.DeepCutAuto
import Derived.IntWalk
namespace Go.Proofs.Ytegmfmonkaimcaa
set_option linter.unusedVariables false
set_option linter.unusedSimpArgs false
open Go.RowKit Go.NP
namespace LTwice
theorem cf11 (args : Array Value) (w1 : World) : (callFunc 11 args).run Try.prog w1 = .ok (.enter 11 args) w1 := enters Try.func11 (by kernel_rfl) (by kernel_rfl) args w1
theorem cf14 (args : Array Value) (w1 : World) : (callFunc 14 args).run Try.prog w1 = .ok (.enter 14 args) w1 := enters Try.func14 (by kernel_rfl) (by kernel_rfl) args w1
theorem cf18 (args : Array Value) (w1 : World) : (callFunc 18 args).run Try.prog w1 = .ok (.enter 18 args) w1 := enters Try.func18 (by kernel_rfl) (by kernel_rfl) args w1
theorem cf20 (args : Array Value) (w1 : World) : (callFunc 20 args).run Try.prog w1 = .ok (.enter 20 args) w1 := enters Try.func20 (by kernel_rfl) (by kernel_rfl) args w1
theorem cf22 (args : Array Value) (w1 : World) : (callFunc 22 args).run Try.prog w1 = .ok (.enter 22 args) w1 := enters Try.func22 (by kernel_rfl) (by kernel_rfl) args w1
theorem bcheckC (b : Bd) (w : World) : RetB Try.prog 14 #[.agg #[.int .i64 b.lo.x, .int .i64 b.lo.y, .int .i64 b.lo.z, .int .i64 b.hi.x, .int .i64 b.hi.y, .int .i64 b.hi.z]] w (.int .i64 (errIf b.ok)) := by
  by_cases h : b.ok
  · rw [errIf_pos h]; exact bcheck_ok b w h
  · rw [errIf_neg h]; exact bcheck_no b w h
set_option maxRecDepth 100000 in
set_option maxHeartbeats 4000000 in
theorem law (a b c : Bd) (r s : Int) (w : World) : RetB Try.prog 6 #[.agg #[.int .i64 a.lo.x, .int .i64 a.lo.y, .int .i64 a.lo.z, .int .i64 a.hi.x, .int .i64 a.hi.y, .int .i64 a.hi.z], .agg #[.int .i64 b.lo.x, .int .i64 b.lo.y, .int .i64 b.lo.z, .int .i64 b.hi.x, .int .i64 b.hi.y, .int .i64 b.hi.z], .agg #[.int .i64 c.lo.x, .int .i64 c.lo.y, .int .i64 c.lo.z, .int .i64 c.hi.x, .int .i64 c.hi.y, .int .i64 c.hi.z], .int .i64 r, .int .i64 s] w (.bool true) := by
  unfold RetB
  go_enter Try.func6, Try.ntmps6
  go_wp2_with fail
  go_upto_region 1 with fail
  go_cut [37] (fun s37 wx => s37 = .bool false ∧ Box wx w.heap.size [.int .i64 a.lo.x, .int .i64 a.lo.y, .int .i64 a.lo.z, .int .i64 a.hi.x, .int .i64 a.hi.y, .int .i64 a.hi.z] 26 ∧ Box wx (w.heap.size + 1) [.int .i64 b.lo.x, .int .i64 b.lo.y, .int .i64 b.lo.z, .int .i64 b.hi.x, .int .i64 b.hi.y, .int .i64 b.hi.z] 26 ∧ Box wx (w.heap.size + 1 + 1) [.int .i64 c.lo.x, .int .i64 c.lo.y, .int .i64 c.lo.z, .int .i64 c.hi.x, .int .i64 c.hi.y, .int .i64 c.hi.z] 26 ∧ Below w.heap.size w wx)
  case first =>
    have hA : Box (((w.alloc (.cells #[.int .i64 a.lo.x, .int .i64 a.lo.y, .int .i64 a.lo.z, .int .i64 a.hi.x, .int .i64 a.hi.y, .int .i64 a.hi.z] 26)).alloc (.cells #[.int .i64 b.lo.x, .int .i64 b.lo.y, .int .i64 b.lo.z, .int .i64 b.hi.x, .int .i64 b.hi.y, .int .i64 b.hi.z] 26)).alloc (.cells #[.int .i64 c.lo.x, .int .i64 c.lo.y, .int .i64 c.lo.z, .int .i64 c.hi.x, .int .i64 c.hi.y, .int .i64 c.hi.z] 26)) w.heap.size [.int .i64 a.lo.x, .int .i64 a.lo.y, .int .i64 a.lo.z, .int .i64 a.hi.x, .int .i64 a.hi.y, .int .i64 a.hi.z] 26 := ((Box.new rfl).alloc _).alloc _
    have hB : Box (((w.alloc (.cells #[.int .i64 a.lo.x, .int .i64 a.lo.y, .int .i64 a.lo.z, .int .i64 a.hi.x, .int .i64 a.hi.y, .int .i64 a.hi.z] 26)).alloc (.cells #[.int .i64 b.lo.x, .int .i64 b.lo.y, .int .i64 b.lo.z, .int .i64 b.hi.x, .int .i64 b.hi.y, .int .i64 b.hi.z] 26)).alloc (.cells #[.int .i64 c.lo.x, .int .i64 c.lo.y, .int .i64 c.lo.z, .int .i64 c.hi.x, .int .i64 c.hi.y, .int .i64 c.hi.z] 26)) (w.heap.size + 1) [.int .i64 b.lo.x, .int .i64 b.lo.y, .int .i64 b.lo.z, .int .i64 b.hi.x, .int .i64 b.hi.y, .int .i64 b.hi.z] 26 := (Box.new (by simp)).alloc _
    have hC : Box (((w.alloc (.cells #[.int .i64 a.lo.x, .int .i64 a.lo.y, .int .i64 a.lo.z, .int .i64 a.hi.x, .int .i64 a.hi.y, .int .i64 a.hi.z] 26)).alloc (.cells #[.int .i64 b.lo.x, .int .i64 b.lo.y, .int .i64 b.lo.z, .int .i64 b.hi.x, .int .i64 b.hi.y, .int .i64 b.hi.z] 26)).alloc (.cells #[.int .i64 c.lo.x, .int .i64 c.lo.y, .int .i64 c.lo.z, .int .i64 c.hi.x, .int .i64 c.hi.y, .int .i64 c.hi.z] 26)) (w.heap.size + 1 + 1) [.int .i64 c.lo.x, .int .i64 c.lo.y, .int .i64 c.lo.z, .int .i64 c.hi.x, .int .i64 c.hi.y, .int .i64 c.hi.z] 26 := (Box.new (by simp))
    have hW : Below w.heap.size w (((w.alloc (.cells #[.int .i64 a.lo.x, .int .i64 a.lo.y, .int .i64 a.lo.z, .int .i64 a.hi.x, .int .i64 a.hi.y, .int .i64 a.hi.z] 26)).alloc (.cells #[.int .i64 b.lo.x, .int .i64 b.lo.y, .int .i64 b.lo.z, .int .i64 b.hi.x, .int .i64 b.hi.y, .int .i64 b.hi.z] 26)).alloc (.cells #[.int .i64 c.lo.x, .int .i64 c.lo.y, .int .i64 c.lo.z, .int .i64 c.hi.x, .int .i64 c.hi.y, .int .i64 c.hi.z] 26)) := ((((Below.refl _ _).alloc (Nat.le_refl _) _).alloc (by simp) _).alloc (by simp; omega) _)
    revert hA hB hC hW
    generalize ((w.alloc (.cells #[.int .i64 a.lo.x, .int .i64 a.lo.y, .int .i64 a.lo.z, .int .i64 a.hi.x, .int .i64 a.hi.y, .int .i64 a.hi.z] 26)).alloc (.cells #[.int .i64 b.lo.x, .int .i64 b.lo.y, .int .i64 b.lo.z, .int .i64 b.hi.x, .int .i64 b.hi.y, .int .i64 b.hi.z] 26)).alloc (.cells #[.int .i64 c.lo.x, .int .i64 c.lo.y, .int .i64 c.lo.z, .int .i64 c.hi.x, .int .i64 c.hi.y, .int .i64 c.hi.z] 26) = w4
    intro hA hB hC hW
    have x0 := (hA).cell 0; have x1 := (hA).cell 1; have x2 := (hA).cell 2; have x3 := (hA).cell 3; have x4 := (hA).cell 4; have x5 := (hA).cell 5; have xf := (hA).free
    simp only [List.getElem?_cons_zero, List.getElem?_cons_succ] at x0 x1 x2 x3 x4 x5
    have y0 := (hB).cell 0; have y1 := (hB).cell 1; have y2 := (hB).cell 2; have y3 := (hB).cell 3; have y4 := (hB).cell 4; have y5 := (hB).cell 5; have yf := (hB).free
    simp only [List.getElem?_cons_zero, List.getElem?_cons_succ] at y0 y1 y2 y3 y4 y5
    have z0 := (hC).cell 0; have z1 := (hC).cell 1; have z2 := (hC).cell 2; have z3 := (hC).cell 3; have z4 := (hC).cell 4; have z5 := (hC).cell 5; have zf := (hC).free
    simp only [List.getElem?_cons_zero, List.getElem?_cons_succ] at z0 z1 z2 z3 z4 z5
    have m0 := hA.lt; have m1 := hB.lt; have m2 := hC.lt
    by_cases ha : a.ok
    · have ha' := Lib.hid ha
      by_cases hb : b.ok
      · have hb' := Lib.hid hb
        by_cases hc : c.ok
        · as_aux_lemma =>
          have F := Lib.hid (join_assoc ha hb hc)
          clear ha hb hc
          refine wp_region_ph [(26, .free [])] (by kernel_rfl) (by kernel_rfl) ?_
          refine Ph.belowd ?_
          simp only [List.drop_succ_cons, List.drop_zero, List.take_succ_cons, List.take_zero, Nat.reduceSub, Nat.sub_zero]
          iterate 2 (refine SeqO.val (v := ?_) (by rfl) (by rfl) (fun w1 hS => ?_) ?_; rotate_left; (· obtain ⟨hc, hcf⟩ := bcell hS; go_simp; try with_reducible rfl); simp only [Act.put, List.setIfInBounds_toArray, List.set_cons_zero, List.set_cons_succ])
          refine SeqO.callv (by rfl) (by rfl) (by rfl) cf18 (by simp [Act.eval]) (fun w1 hS => joinC a b w1) ?_
          simp only [Act.put, List.setIfInBounds_toArray, List.set_cons_zero, List.set_cons_succ]
          iterate 1 (refine SeqO.val (v := ?_) (by rfl) (by rfl) (fun w1 hS => ?_) ?_; rotate_left; (· obtain ⟨hc, hcf⟩ := bcell hS; go_simp; try with_reducible rfl); simp only [Act.put, List.setIfInBounds_toArray, List.set_cons_zero, List.set_cons_succ])
          refine SeqO.callv (by rfl) (by rfl) (by rfl) cf18 (by simp [Act.eval]) (fun w1 hS => (joinC (join a b) c w1).eq (by rw [F.out])) ?_
          simp only [Act.put, List.setIfInBounds_toArray, List.set_cons_zero, List.set_cons_succ]
          iterate 3 (refine SeqO.val (v := ?_) (by rfl) (by rfl) (fun w1 hS => ?_) ?_; rotate_left; (· obtain ⟨hc, hcf⟩ := bcell hS; go_simp; try with_reducible rfl); simp only [Act.put, List.setIfInBounds_toArray, List.set_cons_zero, List.set_cons_succ])
          refine SeqO.callv (by rfl) (by rfl) (by rfl) cf18 (by simp [Act.eval]) (fun w1 hS => joinC b c w1) ?_
          simp only [Act.put, List.setIfInBounds_toArray, List.set_cons_zero, List.set_cons_succ]
          refine SeqO.callv (by rfl) (by rfl) (by rfl) cf18 (by simp [Act.eval]) (fun w1 hS => joinC a (join b c) w1) ?_
          simp only [Act.put, List.setIfInBounds_toArray, List.set_cons_zero, List.set_cons_succ]
          repeat (first | (refine SeqO.skip (by rfl) (by rfl) ?_; simp only [Act.put, List.setIfInBounds_toArray, List.set_cons_zero, List.set_cons_succ])  | (refine SeqO.val (v := ?_) (by rfl) (by rfl) (fun w1 hS => ?_) ?_; rotate_left; (· obtain ⟨hc, hcf⟩ := bcell hS; go_simp; try with_reducible rfl); simp only [Act.put, List.setIfInBounds_toArray, List.set_cons_zero, List.set_cons_succ]))
          refine SeqO.nil0 fun w5 hS => ?_
          refine Ph.last ?_
          simp only [List.drop_succ_cons, List.drop_zero, List.take_succ_cons, List.take_zero, Nat.reduceSub, Nat.sub_zero]
          have hA2 := hA.step hS; have hB2 := hB.step hS; have hC2 := hC.step hS; have hW2 := hW.trans (hS.mono hW.size)
          clear x0 x1 x2 x3 x4 x5 xf
          clear y0 y1 y2 y3 y4 y5 yf
          clear z0 z1 z2 z3 z4 z5 zf
          clear hS hA hB hC hW
          go_wp2_with fail
          go_meet
          exact ⟨rfl, hA2, hB2, hC2, hW2⟩
        · as_aux_lemma =>
          have hc' := Lib.hid hc
          clear hc ha hb
          refine wp_region_ph [(26, .free [])] (by kernel_rfl) (by kernel_rfl) ?_
          refine Ph.belowd ?_
          simp only [List.drop_succ_cons, List.drop_zero, List.take_succ_cons, List.take_zero, Nat.reduceSub, Nat.sub_zero]
          iterate 2 (refine SeqO.val (v := ?_) (by rfl) (by rfl) (fun w1 hS => ?_) ?_; rotate_left; (· obtain ⟨hc, hcf⟩ := bcell hS; go_simp; try with_reducible rfl); simp only [Act.put, List.setIfInBounds_toArray, List.set_cons_zero, List.set_cons_succ])
          refine SeqO.callv (by rfl) (by rfl) (by rfl) cf18 (by simp [Act.eval]) (fun w1 hS => joinC a b w1) ?_
          simp only [Act.put, List.setIfInBounds_toArray, List.set_cons_zero, List.set_cons_succ]
          iterate 1 (refine SeqO.val (v := ?_) (by rfl) (by rfl) (fun w1 hS => ?_) ?_; rotate_left; (· obtain ⟨hc, hcf⟩ := bcell hS; go_simp; try with_reducible rfl); simp only [Act.put, List.setIfInBounds_toArray, List.set_cons_zero, List.set_cons_succ])
          refine SeqO.callv (by rfl) (by rfl) (by rfl) cf18 (by simp [Act.eval]) (fun w1 hS => joinC (join a b) c w1) ?_
          simp only [Act.put, List.setIfInBounds_toArray, List.set_cons_zero, List.set_cons_succ]
          iterate 3 (refine SeqO.val (v := ?_) (by rfl) (by rfl) (fun w1 hS => ?_) ?_; rotate_left; (· obtain ⟨hc, hcf⟩ := bcell hS; go_simp; try with_reducible rfl); simp only [Act.put, List.setIfInBounds_toArray, List.set_cons_zero, List.set_cons_succ])
          refine SeqO.callv (by rfl) (by rfl) (by rfl) cf18 (by simp [Act.eval]) (fun w1 hS => joinC b c w1) ?_
          simp only [Act.put, List.setIfInBounds_toArray, List.set_cons_zero, List.set_cons_succ]
          refine SeqO.callv (by rfl) (by rfl) (by rfl) cf18 (by simp [Act.eval]) (fun w1 hS => joinC a (join b c) w1) ?_
          simp only [Act.put, List.setIfInBounds_toArray, List.set_cons_zero, List.set_cons_succ]
          generalize join (join a b) c = x, join a (join b c) = y
          refine SeqO.val (v := .bool (!decide (x = y))) (by rfl) (by rfl) (fun w1 hS => ?_) ?_
          · go_simp
            by_cases hxy : x = y
            · simp [hxy]
            · rw [decide_eq_false hxy]; rcases bd_ne hxy with h1 | ⟨h1, h2⟩ | ⟨h1, h2, h3⟩ | ⟨h1, h2, h3, h4⟩ | ⟨h1, h2, h3, h4, h5⟩ | ⟨h1, h2, h3, h4, h5, h6⟩ <;> simp [*]
          simp only [Act.put, List.setIfInBounds_toArray, List.set_cons_zero, List.set_cons_succ]
          generalize decide (x = y) = t
          cases t
          · repeat (first | (refine SeqO.skip (by rfl) (by rfl) ?_; simp only [Act.put, List.setIfInBounds_toArray, List.set_cons_zero, List.set_cons_succ])  | (refine SeqO.val (v := ?_) (by rfl) (by rfl) (fun w1 hS => ?_) ?_; rotate_left; (· obtain ⟨hc, hcf⟩ := bcell hS; go_simp; try with_reducible rfl); simp only [Act.put, List.setIfInBounds_toArray, List.set_cons_zero, List.set_cons_succ]))
            refine SeqO.callv (by rfl) (by rfl) (by rfl) cf14 (by simp [Act.eval]) (fun w1 hS => bcheck_ok a w1 ha'.out) ?_
            simp only [Act.put, List.setIfInBounds_toArray, List.set_cons_zero, List.set_cons_succ]
            repeat (first | (refine SeqO.skip (by rfl) (by rfl) ?_; simp only [Act.put, List.setIfInBounds_toArray, List.set_cons_zero, List.set_cons_succ])  | (refine SeqO.val (v := ?_) (by rfl) (by rfl) (fun w1 hS => ?_) ?_; rotate_left; (· obtain ⟨hc, hcf⟩ := bcell hS; go_simp; try with_reducible rfl); simp only [Act.put, List.setIfInBounds_toArray, List.set_cons_zero, List.set_cons_succ]))
            refine SeqO.callv (by rfl) (by rfl) (by rfl) cf14 (by simp [Act.eval]) (fun w1 hS => bcheck_ok b w1 hb'.out) ?_
            simp only [Act.put, List.setIfInBounds_toArray, List.set_cons_zero, List.set_cons_succ]
            repeat (first | (refine SeqO.skip (by rfl) (by rfl) ?_; simp only [Act.put, List.setIfInBounds_toArray, List.set_cons_zero, List.set_cons_succ])  | (refine SeqO.val (v := ?_) (by rfl) (by rfl) (fun w1 hS => ?_) ?_; rotate_left; (· obtain ⟨hc, hcf⟩ := bcell hS; go_simp; try with_reducible rfl); simp only [Act.put, List.setIfInBounds_toArray, List.set_cons_zero, List.set_cons_succ]))
            refine SeqO.callv (by rfl) (by rfl) (by rfl) cf14 (by simp [Act.eval]) (fun w1 hS => bcheck_no c w1 hc'.out) ?_
            simp only [Act.put, List.setIfInBounds_toArray, List.set_cons_zero, List.set_cons_succ]
            repeat (first | (refine SeqO.skip (by rfl) (by rfl) ?_; simp only [Act.put, List.setIfInBounds_toArray, List.set_cons_zero, List.set_cons_succ])  | (refine SeqO.val (v := ?_) (by rfl) (by rfl) (fun w1 hS => ?_) ?_; rotate_left; (· obtain ⟨hc, hcf⟩ := bcell hS; go_simp; try with_reducible rfl); simp only [Act.put, List.setIfInBounds_toArray, List.set_cons_zero, List.set_cons_succ]))
            refine SeqO.nil0 fun w5 hS => ?_
            refine Ph.last ?_
            simp only [List.drop_succ_cons, List.drop_zero, List.take_succ_cons, List.take_zero, Nat.reduceSub, Nat.sub_zero]
            have hA2 := hA.step hS; have hB2 := hB.step hS; have hC2 := hC.step hS; have hW2 := hW.trans (hS.mono hW.size)
            clear x0 x1 x2 x3 x4 x5 xf
            clear y0 y1 y2 y3 y4 y5 yf
            clear z0 z1 z2 z3 z4 z5 zf
            clear hS hA hB hC hW
            go_wp2_with fail
            go_meet
            exact ⟨rfl, hA2, hB2, hC2, hW2⟩
          · repeat (first | (refine SeqO.skip (by rfl) (by rfl) ?_; simp only [Act.put, List.setIfInBounds_toArray, List.set_cons_zero, List.set_cons_succ])  | (refine SeqO.val (v := ?_) (by rfl) (by rfl) (fun w1 hS => ?_) ?_; rotate_left; (· obtain ⟨hc, hcf⟩ := bcell hS; go_simp; try with_reducible rfl); simp only [Act.put, List.setIfInBounds_toArray, List.set_cons_zero, List.set_cons_succ]))
            refine SeqO.nil0 fun w5 hS => ?_
            refine Ph.last ?_
            simp only [List.drop_succ_cons, List.drop_zero, List.take_succ_cons, List.take_zero, Nat.reduceSub, Nat.sub_zero]
            have hA2 := hA.step hS; have hB2 := hB.step hS; have hC2 := hC.step hS; have hW2 := hW.trans (hS.mono hW.size)
            clear x0 x1 x2 x3 x4 x5 xf
            clear y0 y1 y2 y3 y4 y5 yf
            clear z0 z1 z2 z3 z4 z5 zf
            clear hS hA hB hC hW
            go_wp2_with fail
            go_meet
            exact ⟨rfl, hA2, hB2, hC2, hW2⟩
      · as_aux_lemma =>
        have hb' := Lib.hid hb
        clear ha hb
        refine wp_region_ph [(26, .free [])] (by kernel_rfl) (by kernel_rfl) ?_
        refine Ph.belowd ?_
        simp only [List.drop_succ_cons, List.drop_zero, List.take_succ_cons, List.take_zero, Nat.reduceSub, Nat.sub_zero]
        iterate 2 (refine SeqO.val (v := ?_) (by rfl) (by rfl) (fun w1 hS => ?_) ?_; rotate_left; (· obtain ⟨hc, hcf⟩ := bcell hS; go_simp; try with_reducible rfl); simp only [Act.put, List.setIfInBounds_toArray, List.set_cons_zero, List.set_cons_succ])
        refine SeqO.callv (by rfl) (by rfl) (by rfl) cf18 (by simp [Act.eval]) (fun w1 hS => joinC a b w1) ?_
        simp only [Act.put, List.setIfInBounds_toArray, List.set_cons_zero, List.set_cons_succ]
        iterate 1 (refine SeqO.val (v := ?_) (by rfl) (by rfl) (fun w1 hS => ?_) ?_; rotate_left; (· obtain ⟨hc, hcf⟩ := bcell hS; go_simp; try with_reducible rfl); simp only [Act.put, List.setIfInBounds_toArray, List.set_cons_zero, List.set_cons_succ])
        refine SeqO.callv (by rfl) (by rfl) (by rfl) cf18 (by simp [Act.eval]) (fun w1 hS => joinC (join a b) c w1) ?_
        simp only [Act.put, List.setIfInBounds_toArray, List.set_cons_zero, List.set_cons_succ]
        iterate 3 (refine SeqO.val (v := ?_) (by rfl) (by rfl) (fun w1 hS => ?_) ?_; rotate_left; (· obtain ⟨hc, hcf⟩ := bcell hS; go_simp; try with_reducible rfl); simp only [Act.put, List.setIfInBounds_toArray, List.set_cons_zero, List.set_cons_succ])
        refine SeqO.callv (by rfl) (by rfl) (by rfl) cf18 (by simp [Act.eval]) (fun w1 hS => joinC b c w1) ?_
        simp only [Act.put, List.setIfInBounds_toArray, List.set_cons_zero, List.set_cons_succ]
        refine SeqO.callv (by rfl) (by rfl) (by rfl) cf18 (by simp [Act.eval]) (fun w1 hS => joinC a (join b c) w1) ?_
        simp only [Act.put, List.setIfInBounds_toArray, List.set_cons_zero, List.set_cons_succ]
        generalize join (join a b) c = x, join a (join b c) = y
        refine SeqO.val (v := .bool (!decide (x = y))) (by rfl) (by rfl) (fun w1 hS => ?_) ?_
        · go_simp
          by_cases hxy : x = y
          · simp [hxy]
          · rw [decide_eq_false hxy]; rcases bd_ne hxy with h1 | ⟨h1, h2⟩ | ⟨h1, h2, h3⟩ | ⟨h1, h2, h3, h4⟩ | ⟨h1, h2, h3, h4, h5⟩ | ⟨h1, h2, h3, h4, h5, h6⟩ <;> simp [*]
        simp only [Act.put, List.setIfInBounds_toArray, List.set_cons_zero, List.set_cons_succ]
        generalize decide (x = y) = t
        cases t
        · repeat (first | (refine SeqO.skip (by rfl) (by rfl) ?_; simp only [Act.put, List.setIfInBounds_toArray, List.set_cons_zero, List.set_cons_succ])  | (refine SeqO.val (v := ?_) (by rfl) (by rfl) (fun w1 hS => ?_) ?_; rotate_left; (· obtain ⟨hc, hcf⟩ := bcell hS; go_simp; try with_reducible rfl); simp only [Act.put, List.setIfInBounds_toArray, List.set_cons_zero, List.set_cons_succ]))
          refine SeqO.callv (by rfl) (by rfl) (by rfl) cf14 (by simp [Act.eval]) (fun w1 hS => bcheck_ok a w1 ha'.out) ?_
          simp only [Act.put, List.setIfInBounds_toArray, List.set_cons_zero, List.set_cons_succ]
          repeat (first | (refine SeqO.skip (by rfl) (by rfl) ?_; simp only [Act.put, List.setIfInBounds_toArray, List.set_cons_zero, List.set_cons_succ])  | (refine SeqO.val (v := ?_) (by rfl) (by rfl) (fun w1 hS => ?_) ?_; rotate_left; (· obtain ⟨hc, hcf⟩ := bcell hS; go_simp; try with_reducible rfl); simp only [Act.put, List.setIfInBounds_toArray, List.set_cons_zero, List.set_cons_succ]))
          refine SeqO.callv (by rfl) (by rfl) (by rfl) cf14 (by simp [Act.eval]) (fun w1 hS => bcheck_no b w1 hb'.out) ?_
          simp only [Act.put, List.setIfInBounds_toArray, List.set_cons_zero, List.set_cons_succ]
          repeat (first | (refine SeqO.skip (by rfl) (by rfl) ?_; simp only [Act.put, List.setIfInBounds_toArray, List.set_cons_zero, List.set_cons_succ])  | (refine SeqO.val (v := ?_) (by rfl) (by rfl) (fun w1 hS => ?_) ?_; rotate_left; (· obtain ⟨hc, hcf⟩ := bcell hS; go_simp; try with_reducible rfl); simp only [Act.put, List.setIfInBounds_toArray, List.set_cons_zero, List.set_cons_succ]))
          refine SeqO.nil0 fun w5 hS => ?_
          refine Ph.last ?_
          simp only [List.drop_succ_cons, List.drop_zero, List.take_succ_cons, List.take_zero, Nat.reduceSub, Nat.sub_zero]
          have hA2 := hA.step hS; have hB2 := hB.step hS; have hC2 := hC.step hS; have hW2 := hW.trans (hS.mono hW.size)
          clear x0 x1 x2 x3 x4 x5 xf
          clear y0 y1 y2 y3 y4 y5 yf
          clear z0 z1 z2 z3 z4 z5 zf
          clear hS hA hB hC hW
          go_wp2_with fail
          go_meet
          exact ⟨rfl, hA2, hB2, hC2, hW2⟩
        · repeat (first | (refine SeqO.skip (by rfl) (by rfl) ?_; simp only [Act.put, List.setIfInBounds_toArray, List.set_cons_zero, List.set_cons_succ])  | (refine SeqO.val (v := ?_) (by rfl) (by rfl) (fun w1 hS => ?_) ?_; rotate_left; (· obtain ⟨hc, hcf⟩ := bcell hS; go_simp; try with_reducible rfl); simp only [Act.put, List.setIfInBounds_toArray, List.set_cons_zero, List.set_cons_succ]))
          refine SeqO.nil0 fun w5 hS => ?_
          refine Ph.last ?_
          simp only [List.drop_succ_cons, List.drop_zero, List.take_succ_cons, List.take_zero, Nat.reduceSub, Nat.sub_zero]
          have hA2 := hA.step hS; have hB2 := hB.step hS; have hC2 := hC.step hS; have hW2 := hW.trans (hS.mono hW.size)
          clear x0 x1 x2 x3 x4 x5 xf
          clear y0 y1 y2 y3 y4 y5 yf
          clear z0 z1 z2 z3 z4 z5 zf
          clear hS hA hB hC hW
          go_wp2_with fail
          go_meet
          exact ⟨rfl, hA2, hB2, hC2, hW2⟩
    · as_aux_lemma =>
      have ha' := Lib.hid ha
      clear ha
      refine wp_region_ph [(26, .free [])] (by kernel_rfl) (by kernel_rfl) ?_
      refine Ph.belowd ?_
      simp only [List.drop_succ_cons, List.drop_zero, List.take_succ_cons, List.take_zero, Nat.reduceSub, Nat.sub_zero]
      iterate 2 (refine SeqO.val (v := ?_) (by rfl) (by rfl) (fun w1 hS => ?_) ?_; rotate_left; (· obtain ⟨hc, hcf⟩ := bcell hS; go_simp; try with_reducible rfl); simp only [Act.put, List.setIfInBounds_toArray, List.set_cons_zero, List.set_cons_succ])
      refine SeqO.callv (by rfl) (by rfl) (by rfl) cf18 (by simp [Act.eval]) (fun w1 hS => joinC a b w1) ?_
      simp only [Act.put, List.setIfInBounds_toArray, List.set_cons_zero, List.set_cons_succ]
      iterate 1 (refine SeqO.val (v := ?_) (by rfl) (by rfl) (fun w1 hS => ?_) ?_; rotate_left; (· obtain ⟨hc, hcf⟩ := bcell hS; go_simp; try with_reducible rfl); simp only [Act.put, List.setIfInBounds_toArray, List.set_cons_zero, List.set_cons_succ])
      refine SeqO.callv (by rfl) (by rfl) (by rfl) cf18 (by simp [Act.eval]) (fun w1 hS => joinC (join a b) c w1) ?_
      simp only [Act.put, List.setIfInBounds_toArray, List.set_cons_zero, List.set_cons_succ]
      iterate 3 (refine SeqO.val (v := ?_) (by rfl) (by rfl) (fun w1 hS => ?_) ?_; rotate_left; (· obtain ⟨hc, hcf⟩ := bcell hS; go_simp; try with_reducible rfl); simp only [Act.put, List.setIfInBounds_toArray, List.set_cons_zero, List.set_cons_succ])
      refine SeqO.callv (by rfl) (by rfl) (by rfl) cf18 (by simp [Act.eval]) (fun w1 hS => joinC b c w1) ?_
      simp only [Act.put, List.setIfInBounds_toArray, List.set_cons_zero, List.set_cons_succ]
      refine SeqO.callv (by rfl) (by rfl) (by rfl) cf18 (by simp [Act.eval]) (fun w1 hS => joinC a (join b c) w1) ?_
      simp only [Act.put, List.setIfInBounds_toArray, List.set_cons_zero, List.set_cons_succ]
      generalize join (join a b) c = x, join a (join b c) = y
      refine SeqO.val (v := .bool (!decide (x = y))) (by rfl) (by rfl) (fun w1 hS => ?_) ?_
      · go_simp
        by_cases hxy : x = y
        · simp [hxy]
        · rw [decide_eq_false hxy]; rcases bd_ne hxy with h1 | ⟨h1, h2⟩ | ⟨h1, h2, h3⟩ | ⟨h1, h2, h3, h4⟩ | ⟨h1, h2, h3, h4, h5⟩ | ⟨h1, h2, h3, h4, h5, h6⟩ <;> simp [*]
      simp only [Act.put, List.setIfInBounds_toArray, List.set_cons_zero, List.set_cons_succ]
      generalize decide (x = y) = t
      cases t
      · repeat (first | (refine SeqO.skip (by rfl) (by rfl) ?_; simp only [Act.put, List.setIfInBounds_toArray, List.set_cons_zero, List.set_cons_succ])  | (refine SeqO.val (v := ?_) (by rfl) (by rfl) (fun w1 hS => ?_) ?_; rotate_left; (· obtain ⟨hc, hcf⟩ := bcell hS; go_simp; try with_reducible rfl); simp only [Act.put, List.setIfInBounds_toArray, List.set_cons_zero, List.set_cons_succ]))
        refine SeqO.callv (by rfl) (by rfl) (by rfl) cf14 (by simp [Act.eval]) (fun w1 hS => bcheck_no a w1 ha'.out) ?_
        simp only [Act.put, List.setIfInBounds_toArray, List.set_cons_zero, List.set_cons_succ]
        repeat (first | (refine SeqO.skip (by rfl) (by rfl) ?_; simp only [Act.put, List.setIfInBounds_toArray, List.set_cons_zero, List.set_cons_succ])  | (refine SeqO.val (v := ?_) (by rfl) (by rfl) (fun w1 hS => ?_) ?_; rotate_left; (· obtain ⟨hc, hcf⟩ := bcell hS; go_simp; try with_reducible rfl); simp only [Act.put, List.setIfInBounds_toArray, List.set_cons_zero, List.set_cons_succ]))
        refine SeqO.nil0 fun w5 hS => ?_
        refine Ph.last ?_
        simp only [List.drop_succ_cons, List.drop_zero, List.take_succ_cons, List.take_zero, Nat.reduceSub, Nat.sub_zero]
        have hA2 := hA.step hS; have hB2 := hB.step hS; have hC2 := hC.step hS; have hW2 := hW.trans (hS.mono hW.size)
        clear x0 x1 x2 x3 x4 x5 xf
        clear y0 y1 y2 y3 y4 y5 yf
        clear z0 z1 z2 z3 z4 z5 zf
        clear hS hA hB hC hW
        go_wp2_with fail
        go_meet
        exact ⟨rfl, hA2, hB2, hC2, hW2⟩
      · repeat (first | (refine SeqO.skip (by rfl) (by rfl) ?_; simp only [Act.put, List.setIfInBounds_toArray, List.set_cons_zero, List.set_cons_succ])  | (refine SeqO.val (v := ?_) (by rfl) (by rfl) (fun w1 hS => ?_) ?_; rotate_left; (· obtain ⟨hc, hcf⟩ := bcell hS; go_simp; try with_reducible rfl); simp only [Act.put, List.setIfInBounds_toArray, List.set_cons_zero, List.set_cons_succ]))
        refine SeqO.nil0 fun w5 hS => ?_
        refine Ph.last ?_
        simp only [List.drop_succ_cons, List.drop_zero, List.take_succ_cons, List.take_zero, Nat.reduceSub, Nat.sub_zero]
        have hA2 := hA.step hS; have hB2 := hB.step hS; have hC2 := hC.step hS; have hW2 := hW.trans (hS.mono hW.size)
        clear x0 x1 x2 x3 x4 x5 xf
        clear y0 y1 y2 y3 y4 y5 yf
        clear z0 z1 z2 z3 z4 z5 zf
        clear hS hA hB hC hW
        go_wp2_with fail
        go_meet
        exact ⟨rfl, hA2, hB2, hC2, hW2⟩
  case rest =>
    obtain ⟨rfl, hA, hB, hC, hW⟩ := hcut
    have x0 := (hA).cell 0; have x1 := (hA).cell 1; have x2 := (hA).cell 2; have x3 := (hA).cell 3; have x4 := (hA).cell 4; have x5 := (hA).cell 5; have xf := (hA).free
    simp only [List.getElem?_cons_zero, List.getElem?_cons_succ] at x0 x1 x2 x3 x4 x5
    have y0 := (hB).cell 0; have y1 := (hB).cell 1; have y2 := (hB).cell 2; have y3 := (hB).cell 3; have y4 := (hB).cell 4; have y5 := (hB).cell 5; have yf := (hB).free
    simp only [List.getElem?_cons_zero, List.getElem?_cons_succ] at y0 y1 y2 y3 y4 y5
    have m0 := hA.lt; have m1 := hB.lt
    by_cases t1 : r < 0
    · have t1 : decide (r < 0) = true := decide_eq_true t1
      as_aux_lemma =>
      go_wp2_with fail
      refine (awakeC _).mono ?_
      rintro e w2 ⟨rfl, hS⟩
      have hW2 := hW.trans (hS.mono hW.size)
      go_wp2
      exact bodyPost_ret (v := .bool true) (by simp [results, Try.results6, go_sem]) rfl ⟨rfl, hW2⟩
    by_cases t2 : s < 0
    · have t1 : decide (r < 0) = false := decide_eq_false t1
      have t2 : decide (s < 0) = true := decide_eq_true t2
      as_aux_lemma =>
      go_wp2_with fail
      refine (awakeC _).mono ?_
      rintro e w2 ⟨rfl, hS⟩
      have hW2 := hW.trans (hS.mono hW.size)
      go_wp2
      exact bodyPost_ret (v := .bool true) (by simp [results, Try.results6, go_sem]) rfl ⟨rfl, hW2⟩
    by_cases t3 : 268435456 < r
    · have t1 : decide (r < 0) = false := decide_eq_false t1
      have t2 : decide (s < 0) = false := decide_eq_false t2
      have t3 : decide (268435456 < r) = true := decide_eq_true t3
      as_aux_lemma =>
      go_wp2_with fail
      refine (awakeC _).mono ?_
      rintro e w2 ⟨rfl, hS⟩
      have hW2 := hW.trans (hS.mono hW.size)
      go_wp2
      exact bodyPost_ret (v := .bool true) (by simp [results, Try.results6, go_sem]) rfl ⟨rfl, hW2⟩
    by_cases t4 : 268435456 < s
    · have t1 : decide (r < 0) = false := decide_eq_false t1
      have t2 : decide (s < 0) = false := decide_eq_false t2
      have t3 : decide (268435456 < r) = false := decide_eq_false t3
      have t4 : decide (268435456 < s) = true := decide_eq_true t4
      as_aux_lemma =>
      go_wp2_with fail
      refine (awakeC _).mono ?_
      rintro e w2 ⟨rfl, hS⟩
      have hW2 := hW.trans (hS.mono hW.size)
      go_wp2
      exact bodyPost_ret (v := .bool true) (by simp [results, Try.results6, go_sem]) rfl ⟨rfl, hW2⟩
    by_cases t5 : 268435456 < r + s
    · have q1 : 0 ≤ r := by omega
      have q2 : 0 ≤ s := by omega
      have q3 : r ≤ 268435456 := by omega
      have q4 : s ≤ 268435456 := by omega
      have t1 : decide (r < 0) = false := decide_eq_false t1
      have t2 : decide (s < 0) = false := decide_eq_false t2
      have t3 : decide (268435456 < r) = false := decide_eq_false t3
      have t4 : decide (268435456 < s) = false := decide_eq_false t4
      have t5 : decide (268435456 < r + s) = true := decide_eq_true t5
      as_aux_lemma =>
      go_wp2_with fail
      refine (awakeC _).mono ?_
      rintro e w2 ⟨rfl, hS⟩
      have hW2 := hW.trans (hS.mono hW.size)
      go_wp2
      exact bodyPost_ret (v := .bool true) (by simp [results, Try.results6, go_sem]) rfl ⟨rfl, hW2⟩
    have q1 : 0 ≤ r := by omega
    have q2 : 0 ≤ s := by omega
    have q3 : r ≤ 268435456 := by omega
    have q4 : s ≤ 268435456 := by omega
    have q5 : r + s ≤ 268435456 := by omega
    have t1 : decide (r < 0) = false := decide_eq_false t1
    have t2 : decide (s < 0) = false := decide_eq_false t2
    have t3 : decide (268435456 < r) = false := decide_eq_false t3
    have t4 : decide (268435456 < s) = false := decide_eq_false t4
    have t5 : decide (268435456 < r + s) = false := decide_eq_false t5
    by_cases ha : a.ok
    · as_aux_lemma =>
      have F1 := Lib.hid (grow_grow ha q1 q2 q5)
      have F2 := Lib.hid (size_grow ha r)
      have F3 := Lib.hid (fun hb : b.ok => size_join ha hb)
      have hv := Lib.hid ha
      clear ha
      go_wp2_with fail
      refine (bcheck_ok a _ hv.out).mono ?_
      rintro e w2 ⟨rfl, hS⟩
      have hA2 := hA.step hS; have hB2 := hB.step hS
      have hW2 := hW.trans (hS.mono hW.size)
      clear x0 x1 x2 x3 x4 x5 xf
      clear y0 y1 y2 y3 y4 y5 yf
      clear hS hA hB hC hW m0 m1
      have x0 := (hA2).cell 0; have x1 := (hA2).cell 1; have x2 := (hA2).cell 2; have x3 := (hA2).cell 3; have x4 := (hA2).cell 4; have x5 := (hA2).cell 5; have xf := (hA2).free
      simp only [List.getElem?_cons_zero, List.getElem?_cons_succ] at x0 x1 x2 x3 x4 x5
      go_wp2_with fail
      refine (growC a r _).mono ?_
      rintro e w3 ⟨rfl, hS⟩
      have hA3 := hA2.step hS; have hB3 := hB2.step hS
      have hW3 := hW2.trans (hS.mono hW2.size)
      clear x0 x1 x2 x3 x4 x5 xf
      clear hS hA2 hB2 hW2
      generalize hg : grow a r = g at *
      have HG := Lib.hid hg
      clear hg
      go_wp2
      have hA := hA3.alloc (.cells #[.int .i64 g.lo.x, .int .i64 g.lo.y, .int .i64 g.lo.z, .int .i64 g.hi.x, .int .i64 g.hi.y, .int .i64 g.hi.z] 26)
      have hB := hB3.alloc (.cells #[.int .i64 g.lo.x, .int .i64 g.lo.y, .int .i64 g.lo.z, .int .i64 g.hi.x, .int .i64 g.hi.y, .int .i64 g.hi.z] 26)
      have hG : Box (w3.alloc (.cells #[.int .i64 g.lo.x, .int .i64 g.lo.y, .int .i64 g.lo.z, .int .i64 g.hi.x, .int .i64 g.hi.y, .int .i64 g.hi.z] 26)) w3.heap.size [.int .i64 g.lo.x, .int .i64 g.lo.y, .int .i64 g.lo.z, .int .i64 g.hi.x, .int .i64 g.hi.y, .int .i64 g.hi.z] 26 := Box.new rfl
      have hW : Below w.heap.size w (w3.alloc (.cells #[.int .i64 g.lo.x, .int .i64 g.lo.y, .int .i64 g.lo.z, .int .i64 g.hi.x, .int .i64 g.hi.y, .int .i64 g.hi.z] 26)) := hW3.alloc hW3.size _
      clear hA3 hB3 hW3
      revert hA hB hG hW
      generalize w3.alloc (.cells #[.int .i64 g.lo.x, .int .i64 g.lo.y, .int .i64 g.lo.z, .int .i64 g.hi.x, .int .i64 g.hi.y, .int .i64 g.hi.z] 26) = w4
      generalize w3.heap.size = n3 at *
      intro hA hB hG hW
      have m0 := hA.lt; have m1 := hB.lt; have m2 := hG.lt
      have x0 := (hA).cell 0; have x1 := (hA).cell 1; have x2 := (hA).cell 2; have x3 := (hA).cell 3; have x4 := (hA).cell 4; have x5 := (hA).cell 5; have xf := (hA).free
      simp only [List.getElem?_cons_zero, List.getElem?_cons_succ] at x0 x1 x2 x3 x4 x5
      have y0 := (hB).cell 0; have y1 := (hB).cell 1; have y2 := (hB).cell 2; have y3 := (hB).cell 3; have y4 := (hB).cell 4; have y5 := (hB).cell 5; have yf := (hB).free
      simp only [List.getElem?_cons_zero, List.getElem?_cons_succ] at y0 y1 y2 y3 y4 y5
      have z0 := (hG).cell 0; have z1 := (hG).cell 1; have z2 := (hG).cell 2; have z3 := (hG).cell 3; have z4 := (hG).cell 4; have z5 := (hG).cell 5; have zf := (hG).free
      simp only [List.getElem?_cons_zero, List.getElem?_cons_succ] at z0 z1 z2 z3 z4 z5
      by_cases hb : b.ok
      · as_aux_lemma =>
        have hb' := Lib.hid hb
        clear hb
        have hwr : IntKind.i64.wrap (r + s) = r + s := IntWalk.i64_in _ (by omega)
        refine wp_region_ph [(33, .free [])] (by kernel_rfl) (by kernel_rfl) ?_
        refine Ph.belowd ?_
        simp only [List.drop_succ_cons, List.drop_zero, List.take_succ_cons, List.take_zero, Nat.reduceSub, Nat.sub_zero]
        iterate 2 (refine SeqO.val (v := ?_) (by rfl) (by rfl) (fun w1 hS => ?_) ?_; rotate_left; (· obtain ⟨hc, hcf⟩ := bcell hS; go_simp; try with_reducible rfl); simp only [Act.put, List.setIfInBounds_toArray, List.set_cons_zero, List.set_cons_succ])
        refine SeqO.callv (by rfl) (by rfl) (by rfl) cf20 (by simp [Act.eval]) (fun w1 hS => growC g s w1) ?_
        simp only [Act.put, List.setIfInBounds_toArray, List.set_cons_zero, List.set_cons_succ]
        iterate 4 (refine SeqO.val (v := ?_) (by rfl) (by rfl) (fun w1 hS => ?_) ?_; rotate_left; (· obtain ⟨hc, hcf⟩ := bcell hS; go_simp; try with_reducible rfl); simp only [Act.put, List.setIfInBounds_toArray, List.set_cons_zero, List.set_cons_succ])
        refine SeqO.callv (by rfl) (by rfl) (by rfl) cf20 (by simp [Act.eval]) (fun w1 hS => (growC a (r + s) w1).eq (by rw [← F1.out])) ?_
        simp only [Act.put, List.setIfInBounds_toArray, List.set_cons_zero, List.set_cons_succ]
        clear hwr
        iterate 3 (refine SeqO.val (v := ?_) (by rfl) (by rfl) (fun w1 hS => ?_) ?_; rotate_left; (· obtain ⟨hc, hcf⟩ := bcell hS; go_simp; try with_reducible rfl); simp only [Act.put, List.setIfInBounds_toArray, List.set_cons_zero, List.set_cons_succ])
        refine SeqO.callv (by rfl) (by rfl) (by rfl) cf22 (by simp [Act.eval]) (fun w1 hS => sizeC g w1) ?_
        simp only [Act.put, List.setIfInBounds_toArray, List.set_cons_zero, List.set_cons_succ]
        iterate 1 (refine SeqO.val (v := ?_) (by rfl) (by rfl) (fun w1 hS => ?_) ?_; rotate_left; (· obtain ⟨hc, hcf⟩ := bcell hS; go_simp; try with_reducible rfl); simp only [Act.put, List.setIfInBounds_toArray, List.set_cons_zero, List.set_cons_succ])
        refine SeqO.callv (by rfl) (by rfl) (by rfl) cf22 (by simp [Act.eval]) (fun w1 hS => sizeC a w1) ?_
        simp only [Act.put, List.setIfInBounds_toArray, List.set_cons_zero, List.set_cons_succ]
        have f2 := F2.out
        iterate 4 (refine SeqO.val (v := ?_) (by rfl) (by rfl) (fun w1 hS => ?_) ?_; rotate_left; (· obtain ⟨hc, hcf⟩ := bcell hS; go_simp; try with_reducible rfl); simp only [Act.put, List.setIfInBounds_toArray, List.set_cons_zero, List.set_cons_succ])
        clear f2
        refine SeqO.callv (by rfl) (by rfl) (by rfl) cf14 (by simp [Act.eval]) (fun w1 hS => bcheck_ok b w1 hb'.out) ?_
        simp only [Act.put, List.setIfInBounds_toArray, List.set_cons_zero, List.set_cons_succ]
        iterate 4 (refine SeqO.val (v := ?_) (by rfl) (by rfl) (fun w1 hS => ?_) ?_; rotate_left; (· obtain ⟨hc, hcf⟩ := bcell hS; go_simp; try with_reducible rfl); simp only [Act.put, List.setIfInBounds_toArray, List.set_cons_zero, List.set_cons_succ])
        refine SeqO.callv (by rfl) (by rfl) (by rfl) cf18 (by simp [Act.eval]) (fun w1 hS => joinC a b w1) ?_
        simp only [Act.put, List.setIfInBounds_toArray, List.set_cons_zero, List.set_cons_succ]
        refine SeqO.callv (by rfl) (by rfl) (by rfl) cf22 (by simp [Act.eval]) (fun w1 hS => sizeC (join a b) w1) ?_
        simp only [Act.put, List.setIfInBounds_toArray, List.set_cons_zero, List.set_cons_succ]
        iterate 1 (refine SeqO.val (v := ?_) (by rfl) (by rfl) (fun w1 hS => ?_) ?_; rotate_left; (· obtain ⟨hc, hcf⟩ := bcell hS; go_simp; try with_reducible rfl); simp only [Act.put, List.setIfInBounds_toArray, List.set_cons_zero, List.set_cons_succ])
        refine SeqO.callv (by rfl) (by rfl) (by rfl) cf22 (by simp [Act.eval]) (fun w1 hS => sizeC b w1) ?_
        simp only [Act.put, List.setIfInBounds_toArray, List.set_cons_zero, List.set_cons_succ]
        have f3 := F3.out hb'.out
        iterate 4 (refine SeqO.val (v := ?_) (by rfl) (by rfl) (fun w1 hS => ?_) ?_; rotate_left; (· obtain ⟨hc, hcf⟩ := bcell hS; go_simp; try with_reducible rfl); simp only [Act.put, List.setIfInBounds_toArray, List.set_cons_zero, List.set_cons_succ])
        clear f3
        refine SeqO.callv (by rfl) (by rfl) (by rfl) cf11 (by simp [Act.eval]) (fun w1 hS => awakeC w1) ?_
        simp only [Act.put, List.setIfInBounds_toArray, List.set_cons_zero, List.set_cons_succ]
        iterate 1 (refine SeqO.val (v := ?_) (by rfl) (by rfl) (fun w1 hS => ?_) ?_; rotate_left; (· obtain ⟨hc, hcf⟩ := bcell hS; go_simp; try with_reducible rfl); simp only [Act.put, List.setIfInBounds_toArray, List.set_cons_zero, List.set_cons_succ])
        refine SeqO.nil0 fun w8 hS => ?_
        refine Ph.last ?_
        simp only [List.drop_succ_cons, List.drop_zero, List.take_succ_cons, List.take_zero, Nat.reduceSub, Nat.sub_zero]
        go_wp2
        exact bodyPost_ret (v := .bool true) (by simp [results, Try.results6, go_sem]) rfl ⟨rfl, hW.trans (hS.mono hW.size)⟩
      · as_aux_lemma =>
        have hb' := Lib.hid hb
        clear hb
        have hwr : IntKind.i64.wrap (r + s) = r + s := IntWalk.i64_in _ (by omega)
        refine wp_region_ph [(33, .free [])] (by kernel_rfl) (by kernel_rfl) ?_
        refine Ph.belowd ?_
        simp only [List.drop_succ_cons, List.drop_zero, List.take_succ_cons, List.take_zero, Nat.reduceSub, Nat.sub_zero]
        iterate 2 (refine SeqO.val (v := ?_) (by rfl) (by rfl) (fun w1 hS => ?_) ?_; rotate_left; (· obtain ⟨hc, hcf⟩ := bcell hS; go_simp; try with_reducible rfl); simp only [Act.put, List.setIfInBounds_toArray, List.set_cons_zero, List.set_cons_succ])
        refine SeqO.callv (by rfl) (by rfl) (by rfl) cf20 (by simp [Act.eval]) (fun w1 hS => growC g s w1) ?_
        simp only [Act.put, List.setIfInBounds_toArray, List.set_cons_zero, List.set_cons_succ]
        iterate 4 (refine SeqO.val (v := ?_) (by rfl) (by rfl) (fun w1 hS => ?_) ?_; rotate_left; (· obtain ⟨hc, hcf⟩ := bcell hS; go_simp; try with_reducible rfl); simp only [Act.put, List.setIfInBounds_toArray, List.set_cons_zero, List.set_cons_succ])
        refine SeqO.callv (by rfl) (by rfl) (by rfl) cf20 (by simp [Act.eval]) (fun w1 hS => (growC a (r + s) w1).eq (by rw [← F1.out])) ?_
        simp only [Act.put, List.setIfInBounds_toArray, List.set_cons_zero, List.set_cons_succ]
        clear hwr
        iterate 3 (refine SeqO.val (v := ?_) (by rfl) (by rfl) (fun w1 hS => ?_) ?_; rotate_left; (· obtain ⟨hc, hcf⟩ := bcell hS; go_simp; try with_reducible rfl); simp only [Act.put, List.setIfInBounds_toArray, List.set_cons_zero, List.set_cons_succ])
        refine SeqO.callv (by rfl) (by rfl) (by rfl) cf22 (by simp [Act.eval]) (fun w1 hS => sizeC g w1) ?_
        simp only [Act.put, List.setIfInBounds_toArray, List.set_cons_zero, List.set_cons_succ]
        iterate 1 (refine SeqO.val (v := ?_) (by rfl) (by rfl) (fun w1 hS => ?_) ?_; rotate_left; (· obtain ⟨hc, hcf⟩ := bcell hS; go_simp; try with_reducible rfl); simp only [Act.put, List.setIfInBounds_toArray, List.set_cons_zero, List.set_cons_succ])
        refine SeqO.callv (by rfl) (by rfl) (by rfl) cf22 (by simp [Act.eval]) (fun w1 hS => sizeC a w1) ?_
        simp only [Act.put, List.setIfInBounds_toArray, List.set_cons_zero, List.set_cons_succ]
        have f2 := F2.out
        iterate 4 (refine SeqO.val (v := ?_) (by rfl) (by rfl) (fun w1 hS => ?_) ?_; rotate_left; (· obtain ⟨hc, hcf⟩ := bcell hS; go_simp; try with_reducible rfl); simp only [Act.put, List.setIfInBounds_toArray, List.set_cons_zero, List.set_cons_succ])
        clear f2
        refine SeqO.callv (by rfl) (by rfl) (by rfl) cf14 (by simp [Act.eval]) (fun w1 hS => bcheck_no b w1 hb'.out) ?_
        simp only [Act.put, List.setIfInBounds_toArray, List.set_cons_zero, List.set_cons_succ]
        repeat (first | (refine SeqO.skip (by rfl) (by rfl) ?_; simp only [Act.put, List.setIfInBounds_toArray, List.set_cons_zero, List.set_cons_succ])  | (refine SeqO.val (v := ?_) (by rfl) (by rfl) (fun w1 hS => ?_) ?_; rotate_left; (· obtain ⟨hc, hcf⟩ := bcell hS; go_simp; try with_reducible rfl); simp only [Act.put, List.setIfInBounds_toArray, List.set_cons_zero, List.set_cons_succ]))
        refine SeqO.callv (by rfl) (by rfl) (by rfl) cf11 (by simp [Act.eval]) (fun w1 hS => awakeC w1) ?_
        simp only [Act.put, List.setIfInBounds_toArray, List.set_cons_zero, List.set_cons_succ]
        iterate 1 (refine SeqO.val (v := ?_) (by rfl) (by rfl) (fun w1 hS => ?_) ?_; rotate_left; (· obtain ⟨hc, hcf⟩ := bcell hS; go_simp; try with_reducible rfl); simp only [Act.put, List.setIfInBounds_toArray, List.set_cons_zero, List.set_cons_succ])
        refine SeqO.nil0 fun w8 hS => ?_
        refine Ph.last ?_
        simp only [List.drop_succ_cons, List.drop_zero, List.take_succ_cons, List.take_zero, Nat.reduceSub, Nat.sub_zero]
        go_wp2
        exact bodyPost_ret (v := .bool true) (by simp [results, Try.results6, go_sem]) rfl ⟨rfl, hW.trans (hS.mono hW.size)⟩
    · as_aux_lemma =>
      go_wp2_with fail
      refine (bcheck_no a _ ha).mono ?_
      rintro e w2 ⟨rfl, hS⟩
      have hW2 := hW.trans (hS.mono hW.size)
      go_wp2_with fail
      refine (awakeC _).mono ?_
      rintro e w3 ⟨rfl, hS⟩
      have hW3 := hW2.trans (hS.mono hW2.size)
      go_wp2
      exact bodyPost_ret (v := .bool true) (by simp [results, Try.results6, go_sem]) rfl ⟨rfl, hW3⟩
end LTwice
end Go.Proofs.Ytegmfmonkaimcaa
