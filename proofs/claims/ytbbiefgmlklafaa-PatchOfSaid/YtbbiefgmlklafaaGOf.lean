/- A point's exact vector, products and differences that fit: the walks. No condition. -/
import Derived.Test.YtbbiefgmlklafaaWidB
import Derived.Test.YtbbiefgmlklafaaSpec
import Derived.Test.YtbbiefgmlklafaaMemR
namespace Go.Proofs.Ytbbiefgmlklafaa
set_option linter.unusedVariables false
set_option linter.unusedSimpArgs false
open Go.RowKit Go.NP
namespace GOf
theorem cf75 (args : Array Value) (w1 : World) : (callFunc 75 args).run Try.prog w1 = .ok (.enter 75 args) w1 := enters Try.func75 (by kernel_rfl) (by kernel_rfl) args w1
theorem wofW {x : Int} (h : i63 x) (w : World) : RetB Try.prog 75 #[.int .i64 x] w (.agg #[.int .u64 (w8 x).a, .int .u64 (w8 x).b, .int .u64 (w8 x).c, .int .u64 (w8 x).d, .int .u64 (w8 x).e, .int .u64 (w8 x).f, .int .u64 (w8 x).g, .int .u64 (w8 x).h]) := by
  rw [w8_small h]; exact ofWC x w
set_option maxRecDepth 100000 in
set_option maxHeartbeats 4000000 in
theorem ofV {p : Pt} (h1 : i63 p.x) (h2 : i63 p.y) (h3 : i63 p.z) (w : World) : RetB Try.prog 46 #[.agg #[.int .i64 p.x, .int .i64 p.y, .int .i64 p.z]] w (.agg #[.int .u64 (w8 p.x).a, .int .u64 (w8 p.x).b, .int .u64 (w8 p.x).c, .int .u64 (w8 p.x).d, .int .u64 (w8 p.x).e, .int .u64 (w8 p.x).f, .int .u64 (w8 p.x).g, .int .u64 (w8 p.x).h, .int .u64 (w8 p.y).a, .int .u64 (w8 p.y).b, .int .u64 (w8 p.y).c, .int .u64 (w8 p.y).d, .int .u64 (w8 p.y).e, .int .u64 (w8 p.y).f, .int .u64 (w8 p.y).g, .int .u64 (w8 p.y).h, .int .u64 (w8 p.z).a, .int .u64 (w8 p.z).b, .int .u64 (w8 p.z).c, .int .u64 (w8 p.z).d, .int .u64 (w8 p.z).e, .int .u64 (w8 p.z).f, .int .u64 (w8 p.z).g, .int .u64 (w8 p.z).h]) := by
  have N1 := Lib.hid (fun w => wofW h1 w); have N2 := Lib.hid (fun w => wofW h2 w); have N3 := Lib.hid (fun w => wofW h3 w)
  clear h1 h2 h3
  unfold RetB
  go_enter Try.func46, Try.ntmps46
  go_wp2
  have hA : Box ((w.alloc (.cells #[.int .i64 p.x, .int .i64 p.y, .int .i64 p.z] 30)).alloc (.cells [.int .u64 0, .int .u64 0, .int .u64 0, .int .u64 0, .int .u64 0, .int .u64 0, .int .u64 0, .int .u64 0, .int .u64 0, .int .u64 0, .int .u64 0, .int .u64 0, .int .u64 0, .int .u64 0, .int .u64 0, .int .u64 0, .int .u64 0, .int .u64 0, .int .u64 0, .int .u64 0, .int .u64 0, .int .u64 0, .int .u64 0, .int .u64 0].toArray 64)) w.heap.size [.int .i64 p.x, .int .i64 p.y, .int .i64 p.z] 30 := (Box.new rfl).alloc _
  have hR : Box ((w.alloc (.cells #[.int .i64 p.x, .int .i64 p.y, .int .i64 p.z] 30)).alloc (.cells [.int .u64 0, .int .u64 0, .int .u64 0, .int .u64 0, .int .u64 0, .int .u64 0, .int .u64 0, .int .u64 0, .int .u64 0, .int .u64 0, .int .u64 0, .int .u64 0, .int .u64 0, .int .u64 0, .int .u64 0, .int .u64 0, .int .u64 0, .int .u64 0, .int .u64 0, .int .u64 0, .int .u64 0, .int .u64 0, .int .u64 0, .int .u64 0].toArray 64)) (w.heap.size + 1) [.int .u64 0, .int .u64 0, .int .u64 0, .int .u64 0, .int .u64 0, .int .u64 0, .int .u64 0, .int .u64 0, .int .u64 0, .int .u64 0, .int .u64 0, .int .u64 0, .int .u64 0, .int .u64 0, .int .u64 0, .int .u64 0, .int .u64 0, .int .u64 0, .int .u64 0, .int .u64 0, .int .u64 0, .int .u64 0, .int .u64 0, .int .u64 0] 64 := Box.new (by simp)
  have hW : Below w.heap.size w ((w.alloc (.cells #[.int .i64 p.x, .int .i64 p.y, .int .i64 p.z] 30)).alloc (.cells [.int .u64 0, .int .u64 0, .int .u64 0, .int .u64 0, .int .u64 0, .int .u64 0, .int .u64 0, .int .u64 0, .int .u64 0, .int .u64 0, .int .u64 0, .int .u64 0, .int .u64 0, .int .u64 0, .int .u64 0, .int .u64 0, .int .u64 0, .int .u64 0, .int .u64 0, .int .u64 0, .int .u64 0, .int .u64 0, .int .u64 0, .int .u64 0].toArray 64)) := (((Below.refl _ _).alloc (Nat.le_refl _) _).alloc (by simp) _)
  revert hA hR hW
  generalize (w.alloc (.cells #[.int .i64 p.x, .int .i64 p.y, .int .i64 p.z] 30)).alloc (.cells [.int .u64 0, .int .u64 0, .int .u64 0, .int .u64 0, .int .u64 0, .int .u64 0, .int .u64 0, .int .u64 0, .int .u64 0, .int .u64 0, .int .u64 0, .int .u64 0, .int .u64 0, .int .u64 0, .int .u64 0, .int .u64 0, .int .u64 0, .int .u64 0, .int .u64 0, .int .u64 0, .int .u64 0, .int .u64 0, .int .u64 0, .int .u64 0].toArray 64) = w2
  intro hA hR hW
  have m0 := hA.lt
  have x0 := (hA).cell 0; have x1 := (hA).cell 1; have x2 := (hA).cell 2; have xf := (hA).free
  simp only [List.getElem?_cons_zero, List.getElem?_cons_succ] at x0 x1 x2
  refine wp_region_ph [(10, .free [])] (by kernel_rfl) (by kernel_rfl) ?_
  refine Ph.belowd ?_
  simp only [List.drop_succ_cons, List.drop_zero, List.take_succ_cons, List.take_zero, Nat.reduceSub, Nat.sub_zero]
  iterate 2 (refine SeqO.val (v := ?_) (by rfl) (by rfl) (fun w1 hS => ?_) ?_; rotate_left; (· obtain ⟨hc, hcf⟩ := bcell hS; go_simp; try with_reducible rfl); simp only [Act.put, List.setIfInBounds_toArray, List.set_cons_zero, List.set_cons_succ])
  refine SeqO.callv (by rfl) (by rfl) (by rfl) cf75 (by simp [Act.eval]) (fun w1 hS => N1.out w1) ?_
  simp only [Act.put, List.setIfInBounds_toArray, List.set_cons_zero, List.set_cons_succ]
  iterate 2 (refine SeqO.val (v := ?_) (by rfl) (by rfl) (fun w1 hS => ?_) ?_; rotate_left; (· obtain ⟨hc, hcf⟩ := bcell hS; go_simp; try with_reducible rfl); simp only [Act.put, List.setIfInBounds_toArray, List.set_cons_zero, List.set_cons_succ])
  refine SeqO.callv (by rfl) (by rfl) (by rfl) cf75 (by simp [Act.eval]) (fun w1 hS => N2.out w1) ?_
  simp only [Act.put, List.setIfInBounds_toArray, List.set_cons_zero, List.set_cons_succ]
  iterate 2 (refine SeqO.val (v := ?_) (by rfl) (by rfl) (fun w1 hS => ?_) ?_; rotate_left; (· obtain ⟨hc, hcf⟩ := bcell hS; go_simp; try with_reducible rfl); simp only [Act.put, List.setIfInBounds_toArray, List.set_cons_zero, List.set_cons_succ])
  refine SeqO.callv (by rfl) (by rfl) (by rfl) cf75 (by simp [Act.eval]) (fun w1 hS => N3.out w1) ?_
  simp only [Act.put, List.setIfInBounds_toArray, List.set_cons_zero, List.set_cons_succ]
  iterate 1 (refine SeqO.val (v := ?_) (by rfl) (by rfl) (fun w1 hS => ?_) ?_; rotate_left; (· obtain ⟨hc, hcf⟩ := bcell hS; go_simp; try with_reducible rfl); simp only [Act.put, List.setIfInBounds_toArray, List.set_cons_zero, List.set_cons_succ])
  refine SeqO.nil0 fun w5 hS => ?_
  have hR := hR.step hS; have hW := hW.trans (hS.mono hW.size)
  refine Ph.last ?_
  simp only [List.drop_succ_cons, List.drop_zero, List.take_succ_cons, List.take_zero, Nat.reduceSub, Nat.sub_zero]
  clear x0 x1 x2 xf
  clear hS hA m0
  refine wpL_store (cs := [.int .u64 (w8 p.x).a, .int .u64 (w8 p.x).b, .int .u64 (w8 p.x).c, .int .u64 (w8 p.x).d, .int .u64 (w8 p.x).e, .int .u64 (w8 p.x).f, .int .u64 (w8 p.x).g, .int .u64 (w8 p.x).h, .int .u64 (w8 p.y).a, .int .u64 (w8 p.y).b, .int .u64 (w8 p.y).c, .int .u64 (w8 p.y).d, .int .u64 (w8 p.y).e, .int .u64 (w8 p.y).f, .int .u64 (w8 p.y).g, .int .u64 (w8 p.y).h, .int .u64 (w8 p.z).a, .int .u64 (w8 p.z).b, .int .u64 (w8 p.z).c, .int .u64 (w8 p.z).d, .int .u64 (w8 p.z).e, .int .u64 (w8 p.z).f, .int .u64 (w8 p.z).g, .int .u64 (w8 p.z).h]) (by rfl) (by rfl) (by rfl) hR (by kernel_rfl) (by rfl) (by simp [Value.oneCell']) (by rfl) ?_
  have hR := hR.row [.int .u64 (w8 p.x).a, .int .u64 (w8 p.x).b, .int .u64 (w8 p.x).c, .int .u64 (w8 p.x).d, .int .u64 (w8 p.x).e, .int .u64 (w8 p.x).f, .int .u64 (w8 p.x).g, .int .u64 (w8 p.x).h, .int .u64 (w8 p.y).a, .int .u64 (w8 p.y).b, .int .u64 (w8 p.y).c, .int .u64 (w8 p.y).d, .int .u64 (w8 p.y).e, .int .u64 (w8 p.y).f, .int .u64 (w8 p.y).g, .int .u64 (w8 p.y).h, .int .u64 (w8 p.z).a, .int .u64 (w8 p.z).b, .int .u64 (w8 p.z).c, .int .u64 (w8 p.z).d, .int .u64 (w8 p.z).e, .int .u64 (w8 p.z).f, .int .u64 (w8 p.z).g, .int .u64 (w8 p.z).h]
  have hW := below_setRow hW (g := w.heap.size + 1) (by omega) [.int .u64 (w8 p.x).a, .int .u64 (w8 p.x).b, .int .u64 (w8 p.x).c, .int .u64 (w8 p.x).d, .int .u64 (w8 p.x).e, .int .u64 (w8 p.x).f, .int .u64 (w8 p.x).g, .int .u64 (w8 p.x).h, .int .u64 (w8 p.y).a, .int .u64 (w8 p.y).b, .int .u64 (w8 p.y).c, .int .u64 (w8 p.y).d, .int .u64 (w8 p.y).e, .int .u64 (w8 p.y).f, .int .u64 (w8 p.y).g, .int .u64 (w8 p.y).h, .int .u64 (w8 p.z).a, .int .u64 (w8 p.z).b, .int .u64 (w8 p.z).c, .int .u64 (w8 p.z).d, .int .u64 (w8 p.z).e, .int .u64 (w8 p.z).f, .int .u64 (w8 p.z).g, .int .u64 (w8 p.z).h].toArray
  revert hR hW
  generalize w5.setRow (w.heap.size + 1) [.int .u64 (w8 p.x).a, .int .u64 (w8 p.x).b, .int .u64 (w8 p.x).c, .int .u64 (w8 p.x).d, .int .u64 (w8 p.x).e, .int .u64 (w8 p.x).f, .int .u64 (w8 p.x).g, .int .u64 (w8 p.x).h, .int .u64 (w8 p.y).a, .int .u64 (w8 p.y).b, .int .u64 (w8 p.y).c, .int .u64 (w8 p.y).d, .int .u64 (w8 p.y).e, .int .u64 (w8 p.y).f, .int .u64 (w8 p.y).g, .int .u64 (w8 p.y).h, .int .u64 (w8 p.z).a, .int .u64 (w8 p.z).b, .int .u64 (w8 p.z).c, .int .u64 (w8 p.z).d, .int .u64 (w8 p.z).e, .int .u64 (w8 p.z).f, .int .u64 (w8 p.z).g, .int .u64 (w8 p.z).h].toArray = w6
  intro hR hW
  refine wpList_nil ?_
  go_wp2
  exact bodyPost_ret (v := .agg #[.int .u64 (w8 p.x).a, .int .u64 (w8 p.x).b, .int .u64 (w8 p.x).c, .int .u64 (w8 p.x).d, .int .u64 (w8 p.x).e, .int .u64 (w8 p.x).f, .int .u64 (w8 p.x).g, .int .u64 (w8 p.x).h, .int .u64 (w8 p.y).a, .int .u64 (w8 p.y).b, .int .u64 (w8 p.y).c, .int .u64 (w8 p.y).d, .int .u64 (w8 p.y).e, .int .u64 (w8 p.y).f, .int .u64 (w8 p.y).g, .int .u64 (w8 p.y).h, .int .u64 (w8 p.z).a, .int .u64 (w8 p.z).b, .int .u64 (w8 p.z).c, .int .u64 (w8 p.z).d, .int .u64 (w8 p.z).e, .int .u64 (w8 p.z).f, .int .u64 (w8 p.z).g, .int .u64 (w8 p.z).h]) (results_cell_row Try.results46 _ _ _ _ _ _ _ (by rfl) hR Try.underlying64 (by rfl) (by kernel_rfl)) rfl ⟨rfl, hW⟩
end GOf
end Go.Proofs.Ytbbiefgmlklafaa
