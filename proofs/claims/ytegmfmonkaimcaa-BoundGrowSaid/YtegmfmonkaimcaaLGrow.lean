/- Bounds joined and grown: the law's walk. No condition. -/
import Derived.Test.YtegmfmonkaimcaaRef2
import Derived.Test.YtegmfmonkaimcaaAwk
namespace Go.Proofs.Ytegmfmonkaimcaa
set_option linter.unusedVariables false
set_option linter.unusedSimpArgs false
open Go.RowKit Go.NP
theorem cf11 (args : Array Value) (w1 : World) : (callFunc 11 args).run Try.prog w1 = .ok (.enter 11 args) w1 := enters Try.func11 (by kernel_rfl) (by kernel_rfl) args w1
theorem cf19 (args : Array Value) (w1 : World) : (callFunc 19 args).run Try.prog w1 = .ok (.enter 19 args) w1 := enters Try.func19 (by kernel_rfl) (by kernel_rfl) args w1
theorem cf21 (args : Array Value) (w1 : World) : (callFunc 21 args).run Try.prog w1 = .ok (.enter 21 args) w1 := enters Try.func21 (by kernel_rfl) (by kernel_rfl) args w1
set_option maxRecDepth 100000 in
set_option maxHeartbeats 2000000 in
theorem lawGrow (a b : Bd) (r : Int) (w : World) : RetB Try.prog 5 #[.agg #[.int .i64 a.lo.x, .int .i64 a.lo.y, .int .i64 a.lo.z, .int .i64 a.hi.x, .int .i64 a.hi.y, .int .i64 a.hi.z], .agg #[.int .i64 b.lo.x, .int .i64 b.lo.y, .int .i64 b.lo.z, .int .i64 b.hi.x, .int .i64 b.hi.y, .int .i64 b.hi.z], .int .i64 r] w (.bool true) := by
  unfold RetB
  go_enter Try.func5, Try.ntmps5
  go_wp2
  refine wp_region_ph [(8, .free []), (16, .free [])] (by kernel_rfl) (by kernel_rfl) ?_
  refine Ph.belowd ?_
  simp only [List.drop_succ_cons, List.drop_zero, List.take_succ_cons, List.take_zero, Nat.reduceSub, Nat.sub_zero]
  iterate 2 (refine SeqO.val (v := ?_) (by rfl) (by rfl) (fun w1 hS => ?_) ?_; rotate_left; (· obtain ⟨hc, hcf⟩ := bcell hS; go_simp; try with_reducible rfl); simp only [Act.put, List.setIfInBounds_toArray, List.set_cons_zero, List.set_cons_succ])
  refine SeqO.callv (by rfl) (by rfl) (by rfl) cf18 (by simp [Act.eval]) (fun w1 hS => joinC a b w1) ?_
  simp only [Act.put, List.setIfInBounds_toArray, List.set_cons_zero, List.set_cons_succ]
  iterate 2 (refine SeqO.val (v := ?_) (by rfl) (by rfl) (fun w1 hS => ?_) ?_; rotate_left; (· obtain ⟨hc, hcf⟩ := bcell hS; go_simp; try with_reducible rfl); simp only [Act.put, List.setIfInBounds_toArray, List.set_cons_zero, List.set_cons_succ])
  refine SeqO.callv (by rfl) (by rfl) (by rfl) cf19 (by simp [Act.eval]) (fun w1 hS => rjoinC a b w1) ?_
  simp only [Act.put, List.setIfInBounds_toArray, List.set_cons_zero, List.set_cons_succ]
  iterate 2 (refine SeqO.val (v := ?_) (by rfl) (by rfl) (fun w1 hS => ?_) ?_; rotate_left; (· obtain ⟨hc, hcf⟩ := bcell hS; go_simp; try with_reducible rfl); simp only [Act.put, List.setIfInBounds_toArray, List.set_cons_zero, List.set_cons_succ])
  refine SeqO.nil0 fun w2 hS => ?_
  have hA : Box w2 w.heap.size [.int .i64 a.lo.x, .int .i64 a.lo.y, .int .i64 a.lo.z, .int .i64 a.hi.x, .int .i64 a.hi.y, .int .i64 a.hi.z] 26 := ((Box.new rfl).alloc _).step hS
  have hB : Box w2 (w.heap.size + 1) [.int .i64 b.lo.x, .int .i64 b.lo.y, .int .i64 b.lo.z, .int .i64 b.hi.x, .int .i64 b.hi.y, .int .i64 b.hi.z] 26 := (Box.new (by simp)).step hS
  have hW : Below w.heap.size w w2 := (((Below.refl _ _).alloc (Nat.le_refl _) _).alloc (by simp) _).trans (hS.mono (by simp; omega))
  have l0 := hA.lt
  clear hS
  have c0 := (hA).cell 0; have c1 := (hA).cell 1; have c2 := (hA).cell 2; have c3 := (hA).cell 3; have c4 := (hA).cell 4; have c5 := (hA).cell 5; have cf := (hA).free
  simp only [List.getElem?_cons_zero, List.getElem?_cons_succ] at c0 c1 c2 c3 c4 c5
  refine Ph.below ?_
  simp only [List.drop_succ_cons, List.drop_zero, List.take_succ_cons, List.take_zero, Nat.reduceSub, Nat.sub_zero]
  iterate 2 (refine SeqO.val (v := ?_) (by rfl) (by rfl) (fun w1 hS => ?_) ?_; rotate_left; (· obtain ⟨hc, hcf⟩ := bcell hS; go_simp; try with_reducible rfl); simp only [Act.put, List.setIfInBounds_toArray, List.set_cons_zero, List.set_cons_succ])
  refine SeqO.callv (by rfl) (by rfl) (by rfl) cf20 (by simp [Act.eval]) (fun w1 hS => growC a r w1) ?_
  simp only [Act.put, List.setIfInBounds_toArray, List.set_cons_zero, List.set_cons_succ]
  iterate 2 (refine SeqO.val (v := ?_) (by rfl) (by rfl) (fun w1 hS => ?_) ?_; rotate_left; (· obtain ⟨hc, hcf⟩ := bcell hS; go_simp; try with_reducible rfl); simp only [Act.put, List.setIfInBounds_toArray, List.set_cons_zero, List.set_cons_succ])
  refine SeqO.callv (by rfl) (by rfl) (by rfl) cf21 (by simp [Act.eval]) (fun w1 hS => rgrowC a r w1) ?_
  simp only [Act.put, List.setIfInBounds_toArray, List.set_cons_zero, List.set_cons_succ]
  iterate 2 (refine SeqO.val (v := ?_) (by rfl) (by rfl) (fun w1 hS => ?_) ?_; rotate_left; (· obtain ⟨hc, hcf⟩ := bcell hS; go_simp; try with_reducible rfl); simp only [Act.put, List.setIfInBounds_toArray, List.set_cons_zero, List.set_cons_succ])
  refine SeqO.nil0 fun w3 hS => ?_
  have hW3 := hW.trans (hS.mono hW.size)
  refine Ph.last ?_
  simp only [List.drop_succ_cons, List.drop_zero, List.take_succ_cons, List.take_zero, Nat.reduceSub, Nat.sub_zero]
  go_wp2_with fail
  refine (awakeC _).mono ?_
  rintro e w4 ⟨rfl, hS4⟩
  go_wp2
  exact bodyPost_ret (v := .bool true) (by simp [results, Try.results5, go_sem]) rfl ⟨rfl, hW3.trans (hS4.mono hW3.size)⟩
end Go.Proofs.Ytegmfmonkaimcaa
