/- Bounds that meet, hold, and their size: the law's walk. No condition. -/
import Derived.Test.YtegmfmonkaimcaaRef3
import Derived.Test.YtegmfmonkaimcaaAwk
namespace Go.Proofs.Ytegmfmonkaimcaa
set_option linter.unusedVariables false
set_option linter.unusedSimpArgs false
open Go.RowKit Go.NP
namespace LMeet
theorem cf11 (args : Array Value) (w1 : World) : (callFunc 11 args).run Try.prog w1 = .ok (.enter 11 args) w1 := enters Try.func11 (by kernel_rfl) (by kernel_rfl) args w1
theorem cf25 (args : Array Value) (w1 : World) : (callFunc 25 args).run Try.prog w1 = .ok (.enter 25 args) w1 := enters Try.func25 (by kernel_rfl) (by kernel_rfl) args w1
theorem cf26 (args : Array Value) (w1 : World) : (callFunc 26 args).run Try.prog w1 = .ok (.enter 26 args) w1 := enters Try.func26 (by kernel_rfl) (by kernel_rfl) args w1
theorem cf27 (args : Array Value) (w1 : World) : (callFunc 27 args).run Try.prog w1 = .ok (.enter 27 args) w1 := enters Try.func27 (by kernel_rfl) (by kernel_rfl) args w1
theorem cf24 (args : Array Value) (w1 : World) : (callFunc 24 args).run Try.prog w1 = .ok (.enter 24 args) w1 := enters Try.func24 (by kernel_rfl) (by kernel_rfl) args w1
theorem cf23 (args : Array Value) (w1 : World) : (callFunc 23 args).run Try.prog w1 = .ok (.enter 23 args) w1 := enters Try.func23 (by kernel_rfl) (by kernel_rfl) args w1
theorem cf22 (args : Array Value) (w1 : World) : (callFunc 22 args).run Try.prog w1 = .ok (.enter 22 args) w1 := enters Try.func22 (by kernel_rfl) (by kernel_rfl) args w1
set_option maxRecDepth 100000 in
set_option maxHeartbeats 2000000 in
theorem law (a b : Bd) (w : World) : RetB Try.prog 8 #[.agg #[.int .i64 a.lo.x, .int .i64 a.lo.y, .int .i64 a.lo.z, .int .i64 a.hi.x, .int .i64 a.hi.y, .int .i64 a.hi.z], .agg #[.int .i64 b.lo.x, .int .i64 b.lo.y, .int .i64 b.lo.z, .int .i64 b.hi.x, .int .i64 b.hi.y, .int .i64 b.hi.z]] w (.bool true) := by
  unfold RetB
  go_enter Try.func8, Try.ntmps8
  go_wp2
  refine wp_region_ph [(25, .free [])] (by kernel_rfl) (by kernel_rfl) ?_
  refine Ph.belowd ?_
  simp only [List.drop_succ_cons, List.drop_zero, List.take_succ_cons, List.take_zero, Nat.reduceSub, Nat.sub_zero]
  iterate 2 (refine SeqO.val (v := ?_) (by rfl) (by rfl) (fun w1 hS => ?_) ?_; rotate_left; (· obtain ⟨hc, hcf⟩ := bcell hS; go_simp; try with_reducible rfl); simp only [Act.put, List.setIfInBounds_toArray, List.set_cons_zero, List.set_cons_succ])
  refine SeqO.callv (by rfl) (by rfl) (by rfl) cf24 (by simp [Act.eval]) (fun w1 hS => meetC a b w1) ?_
  simp only [Act.put, List.setIfInBounds_toArray, List.set_cons_zero, List.set_cons_succ]
  iterate 2 (refine SeqO.val (v := ?_) (by rfl) (by rfl) (fun w1 hS => ?_) ?_; rotate_left; (· obtain ⟨hc, hcf⟩ := bcell hS; go_simp; try with_reducible rfl); simp only [Act.put, List.setIfInBounds_toArray, List.set_cons_zero, List.set_cons_succ])
  refine SeqO.callv (by rfl) (by rfl) (by rfl) cf25 (by simp [Act.eval]) (fun w1 hS => rmeetC a b w1) ?_
  simp only [Act.put, List.setIfInBounds_toArray, List.set_cons_zero, List.set_cons_succ]
  iterate 4 (refine SeqO.val (v := ?_) (by rfl) (by rfl) (fun w1 hS => ?_) ?_; rotate_left; (· obtain ⟨hc, hcf⟩ := bcell hS; go_simp; try with_reducible rfl); simp only [Act.put, List.setIfInBounds_toArray, List.set_cons_zero, List.set_cons_succ])
  refine SeqO.callv (by rfl) (by rfl) (by rfl) cf23 (by simp [Act.eval]) (fun w1 hS => holdsC a b w1) ?_
  simp only [Act.put, List.setIfInBounds_toArray, List.set_cons_zero, List.set_cons_succ]
  iterate 2 (refine SeqO.val (v := ?_) (by rfl) (by rfl) (fun w1 hS => ?_) ?_; rotate_left; (· obtain ⟨hc, hcf⟩ := bcell hS; go_simp; try with_reducible rfl); simp only [Act.put, List.setIfInBounds_toArray, List.set_cons_zero, List.set_cons_succ])
  refine SeqO.callv (by rfl) (by rfl) (by rfl) cf26 (by simp [Act.eval]) (fun w1 hS => rholdsC a b w1) ?_
  simp only [Act.put, List.setIfInBounds_toArray, List.set_cons_zero, List.set_cons_succ]
  iterate 4 (refine SeqO.val (v := ?_) (by rfl) (by rfl) (fun w1 hS => ?_) ?_; rotate_left; (· obtain ⟨hc, hcf⟩ := bcell hS; go_simp; try with_reducible rfl); simp only [Act.put, List.setIfInBounds_toArray, List.set_cons_zero, List.set_cons_succ])
  refine SeqO.callv (by rfl) (by rfl) (by rfl) cf22 (by simp [Act.eval]) (fun w1 hS => sizeC a w1) ?_
  simp only [Act.put, List.setIfInBounds_toArray, List.set_cons_zero, List.set_cons_succ]
  iterate 1 (refine SeqO.val (v := ?_) (by rfl) (by rfl) (fun w1 hS => ?_) ?_; rotate_left; (· obtain ⟨hc, hcf⟩ := bcell hS; go_simp; try with_reducible rfl); simp only [Act.put, List.setIfInBounds_toArray, List.set_cons_zero, List.set_cons_succ])
  refine SeqO.callv (by rfl) (by rfl) (by rfl) cf27 (by simp [Act.eval]) (fun w1 hS => rsizeC a w1) ?_
  simp only [Act.put, List.setIfInBounds_toArray, List.set_cons_zero, List.set_cons_succ]
  iterate 3 (refine SeqO.val (v := ?_) (by rfl) (by rfl) (fun w1 hS => ?_) ?_; rotate_left; (· obtain ⟨hc, hcf⟩ := bcell hS; go_simp; try with_reducible rfl); simp only [Act.put, List.setIfInBounds_toArray, List.set_cons_zero, List.set_cons_succ])
  refine SeqO.callv (by rfl) (by rfl) (by rfl) cf11 (by simp [Act.eval]) (fun w1 hS => awakeC w1) ?_
  simp only [Act.put, List.setIfInBounds_toArray, List.set_cons_zero, List.set_cons_succ]
  refine SeqO.nil0 fun w2 hS => ?_
  have hW : Below w.heap.size w w2 := (((Below.refl _ _).alloc (Nat.le_refl _) _).alloc (by simp) _).trans (hS.mono (by simp; omega))
  refine Ph.last ?_
  simp only [List.drop_succ_cons, List.drop_zero, List.take_succ_cons, List.take_zero, Nat.reduceSub, Nat.sub_zero]
  go_wp2
  exact bodyPost_ret (v := .bool true) (by simp [results, Try.results8, go_sem]) rfl ⟨rfl, hW⟩
end LMeet
end Go.Proofs.Ytegmfmonkaimcaa
