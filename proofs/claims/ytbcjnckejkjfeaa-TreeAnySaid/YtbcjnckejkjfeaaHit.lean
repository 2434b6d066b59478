/- Parts of a way, and numbers of a point: the walks. No condition. -/
import Derived.Test.YtbcjnckejkjfeaaWid8
import Derived.Test.YtbcjnckejkjfeaaBnd5
namespace Go.Proofs.Ytbcjnckejkjfeaa
set_option linter.unusedVariables false
set_option linter.unusedSimpArgs false
open Go.RowKit Go.NP
theorem cf57 (args : Array Value) (w1 : World) : (callFunc 57 args).run Try.prog w1 = .ok (.enter 57 args) w1 := enters Try.func57 (by kernel_rfl) (by kernel_rfl) args w1
theorem cf58 (args : Array Value) (w1 : World) : (callFunc 58 args).run Try.prog w1 = .ok (.enter 58 args) w1 := enters Try.func58 (by kernel_rfl) (by kernel_rfl) args w1
set_option maxHeartbeats 400000 in
theorem numC (p : Pt) (w : World) : RetB Try.prog 57 #[.agg #[.int .i64 p.x, .int .i64 p.y, .int .i64 p.z]] w (.agg #[.int .i64 p.x, .int .i64 p.y, .int .i64 p.z]) := by
  unfold RetB
  go_enter Try.func57, Try.ntmps57
  go_wp2
  exact bodyPost_ret (v := .agg #[.int .i64 p.x, .int .i64 p.y, .int .i64 p.z]) (by simp [results, Try.results57, go_sem]) rfl ⟨rfl, ((Below.refl _ _).alloc (Nat.le_refl _) _).alloc (by simp) _⟩
/-- A fraction, with its divisor. -/
structure Fr where
  n : Int
  d : Int
def small (n : Int) : Prop := -2147483648 ≤ n ∧ n ≤ 2147483648
theorem small_mul {a b : Int} (ha : small a) (hb : small b) : i63 (a * b) := by
  obtain ⟨m0, m1, hm⟩ := mag_mul ha hb
  unfold i63
  rw [hm]
  generalize mag a * mag b = m at *
  split <;> omega
def above (p q : Fr) : Bool := decide (q.n * p.d < p.n * q.d)
set_option maxRecDepth 100000 in
set_option maxHeartbeats 4000000 in
theorem abvC (p q : Fr) (h1 : small p.n) (h2 : small p.d) (h3 : small q.n) (h4 : small q.d) (w : World) :
    RetB Try.prog 58 #[.agg #[.int .i64 p.n, .int .i64 p.d], .agg #[.int .i64 q.n, .int .i64 q.d]] w (.bool (above p q)) := by
  have i1 := small_mul h1 h4
  have i2 := small_mul h3 h2
  have hr : decide (0 < (if p.n * q.d = q.n * p.d then (0 : Int) else if p.n * q.d < q.n * p.d then -1 else 1)) = above p q := by
    unfold above
    apply decide_eq_decide.2
    split
    · omega
    · split <;> omega
  generalize hre : (if p.n * q.d = q.n * p.d then (0 : Int) else if p.n * q.d < q.n * p.d then -1 else 1) = r at hr
  have HR := Lib.hid hr; have HE := Lib.hid hre
  clear hr hre
  unfold RetB
  go_enter Try.func58, Try.ntmps58
  go_wp2
  refine wp_region_ph [(11, .fre [10] [9])] (by kernel_rfl) (by kernel_rfl) ?_
  refine Ph.eagerd [(10, [.int .u64 0, .int .u64 0, .int .u64 0, .int .u64 0, .int .u64 0, .int .u64 0, .int .u64 0, .int .u64 0], 110)] (by rfl) (fun d c a v w h => by cases d <;> exact h) ?_
  simp only [List.drop_succ_cons, List.drop_zero, List.take_succ_cons, List.take_zero, Nat.reduceSub, Nat.sub_zero]
  iterate 2 (refine SeqO.val (v := ?_) (by rfl) (by rfl) (fun w1 hS => ?_) ?_; rotate_left; (· obtain ⟨hc, hcf⟩ := bcell hS; go_simp; try with_reducible rfl); simp only [Act.put, List.setIfInBounds_toArray, List.set_cons_zero, List.set_cons_succ])
  refine SeqO.callv (by rfl) (by rfl) (by rfl) cf73 (by simp [Act.eval]) (fun w1 hS => ofWC p.n w1) ?_
  simp only [Act.put, List.setIfInBounds_toArray, List.set_cons_zero, List.set_cons_succ]
  iterate 2 (refine SeqO.val (v := ?_) (by rfl) (by rfl) (fun w1 hS => ?_) ?_; rotate_left; (· obtain ⟨hc, hcf⟩ := bcell hS; go_simp; try with_reducible rfl); simp only [Act.put, List.setIfInBounds_toArray, List.set_cons_zero, List.set_cons_succ])
  refine SeqO.callv (by rfl) (by rfl) (by rfl) cf73 (by simp [Act.eval]) (fun w1 hS => ofWC q.d w1) ?_
  simp only [Act.put, List.setIfInBounds_toArray, List.set_cons_zero, List.set_cons_succ]
  refine SeqO.callv (by rfl) (by rfl) (by rfl) cf72 (by simp [Act.eval]) (fun w1 hS => mulSC p.n q.d h1 h4 w1) ?_
  simp only [Act.put, List.setIfInBounds_toArray, List.set_cons_zero, List.set_cons_succ]
  iterate 2 (refine SeqO.val (v := ?_) (by rfl) (by rfl) (fun w1 hS => ?_) ?_; rotate_left; (· obtain ⟨hc, hcf⟩ := bcell hS; go_simp; try with_reducible rfl); simp only [Act.put, List.setIfInBounds_toArray, List.set_cons_zero, List.set_cons_succ])
  refine SeqO.eager (v := ?_) (by rfl) (by rfl) (fun w1 => ?_) ?_; rotate_left; (· go_simp; try with_reducible rfl); simp only [Act.put, List.setIfInBounds_toArray, List.set_cons_zero, List.set_cons_succ]
  refine SeqO.alloc (cs := [.int .u64 0, .int .u64 0, .int .u64 0, .int .u64 0, .int .u64 0, .int .u64 0, .int .u64 0, .int .u64 0]) (Ty := 110) (by rfl) ⟨110, by simp⟩ (by rfl) (by simp) (by rfl) (fun w => by go_simp) ?_
  refine SeqO.nil fun L u w1 hL hA => ?_
  obtain ⟨g5, hg5, hge5, hb5⟩ := hA.made (10, [.int .u64 0, .int .u64 0, .int .u64 0, .int .u64 0, .int .u64 0, .int .u64 0, .int .u64 0, .int .u64 0], 110) (by simp) (hL 10 (by omega))
  have hS := hA.below
  clear hA hL
  simp only [List.nil_append, List.cons_append, List.foldl_cons, List.foldl_nil, hg5]
  refine Ph.last ?_
  simp only [List.drop_succ_cons, List.drop_zero, List.take_succ_cons, List.take_zero, Nat.reduceSub, Nat.sub_zero]
  clear hg5
  have k5 : w.heap.size + 1 < g5 := by simp at hge5; omega
  clear hge5
  have hP : Box w1 w.heap.size [.int .i64 p.n, .int .i64 p.d] 92 := ((Box.new rfl).alloc _).step hS
  have hQ : Box w1 (w.heap.size + 1) [.int .i64 q.n, .int .i64 q.d] 92 := (Box.new (by simp)).step hS
  have hG : Box w1 g5 [.int .u64 0, .int .u64 0, .int .u64 0, .int .u64 0, .int .u64 0, .int .u64 0, .int .u64 0, .int .u64 0] 110 := hb5
  have hW : Below w.heap.size w w1 := (((Below.refl _ _).alloc (Nat.le_refl _) _).alloc (by simp) _).trans (hS.mono (by simp; omega))
  clear hb5 hS
  have k6 := hG.lt
  have HI : Box (((((((((w1.setCell ⟨g5, 0, none⟩ (.int .u64 (of8 (p.n * q.d)).a)).setCell ⟨g5, 1, none⟩ (.int .u64 (of8 (p.n * q.d)).b)).setCell ⟨g5, 2, none⟩ (.int .u64 (of8 (p.n * q.d)).c)).setCell ⟨g5, 3, none⟩ (.int .u64 (of8 (p.n * q.d)).d)).setCell ⟨g5, 4, none⟩ (.int .u64 (of8 (p.n * q.d)).e)).setCell ⟨g5, 5, none⟩ (.int .u64 (of8 (p.n * q.d)).f)).setCell ⟨g5, 6, none⟩ (.int .u64 (of8 (p.n * q.d)).g)).setCell ⟨g5, 7, none⟩ (.int .u64 (of8 (p.n * q.d)).h))) w.heap.size [.int .i64 p.n, .int .i64 p.d] 92 ∧ Box (((((((((w1.setCell ⟨g5, 0, none⟩ (.int .u64 (of8 (p.n * q.d)).a)).setCell ⟨g5, 1, none⟩ (.int .u64 (of8 (p.n * q.d)).b)).setCell ⟨g5, 2, none⟩ (.int .u64 (of8 (p.n * q.d)).c)).setCell ⟨g5, 3, none⟩ (.int .u64 (of8 (p.n * q.d)).d)).setCell ⟨g5, 4, none⟩ (.int .u64 (of8 (p.n * q.d)).e)).setCell ⟨g5, 5, none⟩ (.int .u64 (of8 (p.n * q.d)).f)).setCell ⟨g5, 6, none⟩ (.int .u64 (of8 (p.n * q.d)).g)).setCell ⟨g5, 7, none⟩ (.int .u64 (of8 (p.n * q.d)).h))) (w.heap.size + 1) [.int .i64 q.n, .int .i64 q.d] 92 ∧ Box (((((((((w1.setCell ⟨g5, 0, none⟩ (.int .u64 (of8 (p.n * q.d)).a)).setCell ⟨g5, 1, none⟩ (.int .u64 (of8 (p.n * q.d)).b)).setCell ⟨g5, 2, none⟩ (.int .u64 (of8 (p.n * q.d)).c)).setCell ⟨g5, 3, none⟩ (.int .u64 (of8 (p.n * q.d)).d)).setCell ⟨g5, 4, none⟩ (.int .u64 (of8 (p.n * q.d)).e)).setCell ⟨g5, 5, none⟩ (.int .u64 (of8 (p.n * q.d)).f)).setCell ⟨g5, 6, none⟩ (.int .u64 (of8 (p.n * q.d)).g)).setCell ⟨g5, 7, none⟩ (.int .u64 (of8 (p.n * q.d)).h))) g5 [.int .u64 (of8 (p.n * q.d)).a, .int .u64 (of8 (p.n * q.d)).b, .int .u64 (of8 (p.n * q.d)).c, .int .u64 (of8 (p.n * q.d)).d, .int .u64 (of8 (p.n * q.d)).e, .int .u64 (of8 (p.n * q.d)).f, .int .u64 (of8 (p.n * q.d)).g, .int .u64 (of8 (p.n * q.d)).h] 110 ∧ Below w.heap.size w (((((((((w1.setCell ⟨g5, 0, none⟩ (.int .u64 (of8 (p.n * q.d)).a)).setCell ⟨g5, 1, none⟩ (.int .u64 (of8 (p.n * q.d)).b)).setCell ⟨g5, 2, none⟩ (.int .u64 (of8 (p.n * q.d)).c)).setCell ⟨g5, 3, none⟩ (.int .u64 (of8 (p.n * q.d)).d)).setCell ⟨g5, 4, none⟩ (.int .u64 (of8 (p.n * q.d)).e)).setCell ⟨g5, 5, none⟩ (.int .u64 (of8 (p.n * q.d)).f)).setCell ⟨g5, 6, none⟩ (.int .u64 (of8 (p.n * q.d)).g)).setCell ⟨g5, 7, none⟩ (.int .u64 (of8 (p.n * q.d)).h))) :=
    ⟨((((((((hP).other (by simp; omega) _).other (by simp; omega) _).other (by simp; omega) _).other (by simp; omega) _).other (by simp; omega) _).other (by simp; omega) _).other (by simp; omega) _).other (by simp; omega) _, ((((((((hQ).other (by simp; omega) _).other (by simp; omega) _).other (by simp; omega) _).other (by simp; omega) _).other (by simp; omega) _).other (by simp; omega) _).other (by simp; omega) _).other (by simp; omega) _, ((((((((hG).set 0 _).set 1 _).set 2 _).set 3 _).set 4 _).set 5 _).set 6 _).set 7 _, ((((((((hW).setCell (by first | (simp; omega) | omega) _).setCell (by first | (simp; omega) | omega) _).setCell (by first | (simp; omega) | omega) _).setCell (by first | (simp; omega) | omega) _).setCell (by first | (simp; omega) | omega) _).setCell (by first | (simp; omega) | omega) _).setCell (by first | (simp; omega) | omega) _).setCell (by first | (simp; omega) | omega) _⟩
  have y0 := (hG).cell 0; have y1 := (hG).cell 1; have y2 := (hG).cell 2; have y3 := (hG).cell 3; have y4 := (hG).cell 4; have y5 := (hG).cell 5; have y6 := (hG).cell 6; have y7 := (hG).cell 7; have yf := (hG).free
  simp only [List.getElem?_cons_zero, List.getElem?_cons_succ] at y0 y1 y2 y3 y4 y5 y6 y7
  clear hP hQ hG hW
  go_wp2
  clear y0 y1 y2 y3 y4 y5 y6 y7 yf
  revert HI
  generalize ((((((((w1.setCell ⟨g5, 0, none⟩ (.int .u64 (of8 (p.n * q.d)).a)).setCell ⟨g5, 1, none⟩ (.int .u64 (of8 (p.n * q.d)).b)).setCell ⟨g5, 2, none⟩ (.int .u64 (of8 (p.n * q.d)).c)).setCell ⟨g5, 3, none⟩ (.int .u64 (of8 (p.n * q.d)).d)).setCell ⟨g5, 4, none⟩ (.int .u64 (of8 (p.n * q.d)).e)).setCell ⟨g5, 5, none⟩ (.int .u64 (of8 (p.n * q.d)).f)).setCell ⟨g5, 6, none⟩ (.int .u64 (of8 (p.n * q.d)).g)).setCell ⟨g5, 7, none⟩ (.int .u64 (of8 (p.n * q.d)).h)) = w2
  rintro ⟨hP, hQ, hG, hW⟩
  have p0 := hP.cell 0; have p1 := hP.cell 1; have q0 := hQ.cell 0; have q1 := hQ.cell 1
  simp only [List.getElem?_cons_zero, List.getElem?_cons_succ] at p0 p1 q0 q1
  have l0 := hP.lt; have l1 := hQ.lt
  have HP := Lib.hid hP; have HQ := Lib.hid hQ; have HG := Lib.hid hG; have HW := Lib.hid hW
  clear hP hQ hG hW
  refine wp_region_ph [(11, .fre [10] [9])] (by kernel_rfl) (by kernel_rfl) ?_
  refine Ph.eagerd [(10, [.int .u64 0, .int .u64 0, .int .u64 0, .int .u64 0, .int .u64 0, .int .u64 0, .int .u64 0, .int .u64 0], 110)] (by rfl) (fun d c a v w h => by cases d <;> exact h) ?_
  simp only [List.drop_succ_cons, List.drop_zero, List.take_succ_cons, List.take_zero, Nat.reduceSub, Nat.sub_zero]
  iterate 2 (refine SeqO.val (v := ?_) (by rfl) (by rfl) (fun w1 hS => ?_) ?_; rotate_left; (· obtain ⟨hc, hcf⟩ := bcell hS; go_simp; try with_reducible rfl); simp only [Act.put, List.setIfInBounds_toArray, List.set_cons_zero, List.set_cons_succ])
  refine SeqO.callv (by rfl) (by rfl) (by rfl) cf73 (by simp [Act.eval]) (fun w1 hS => ofWC q.n w1) ?_
  simp only [Act.put, List.setIfInBounds_toArray, List.set_cons_zero, List.set_cons_succ]
  iterate 2 (refine SeqO.val (v := ?_) (by rfl) (by rfl) (fun w1 hS => ?_) ?_; rotate_left; (· obtain ⟨hc, hcf⟩ := bcell hS; go_simp; try with_reducible rfl); simp only [Act.put, List.setIfInBounds_toArray, List.set_cons_zero, List.set_cons_succ])
  refine SeqO.callv (by rfl) (by rfl) (by rfl) cf73 (by simp [Act.eval]) (fun w1 hS => ofWC p.d w1) ?_
  simp only [Act.put, List.setIfInBounds_toArray, List.set_cons_zero, List.set_cons_succ]
  refine SeqO.callv (by rfl) (by rfl) (by rfl) cf72 (by simp [Act.eval]) (fun w1 hS => mulSC q.n p.d h3 h2 w1) ?_
  simp only [Act.put, List.setIfInBounds_toArray, List.set_cons_zero, List.set_cons_succ]
  iterate 2 (refine SeqO.val (v := ?_) (by rfl) (by rfl) (fun w1 hS => ?_) ?_; rotate_left; (· obtain ⟨hc, hcf⟩ := bcell hS; go_simp; try with_reducible rfl); simp only [Act.put, List.setIfInBounds_toArray, List.set_cons_zero, List.set_cons_succ])
  refine SeqO.eager (v := ?_) (by rfl) (by rfl) (fun w1 => ?_) ?_; rotate_left; (· go_simp; try with_reducible rfl); simp only [Act.put, List.setIfInBounds_toArray, List.set_cons_zero, List.set_cons_succ]
  refine SeqO.alloc (cs := [.int .u64 0, .int .u64 0, .int .u64 0, .int .u64 0, .int .u64 0, .int .u64 0, .int .u64 0, .int .u64 0]) (Ty := 110) (by rfl) ⟨110, by simp⟩ (by rfl) (by simp) (by rfl) (fun w => by go_simp) ?_
  refine SeqO.nil fun L u w3 hL hA => ?_
  obtain ⟨g7, hg7, hge7, hb7⟩ := hA.made (10, [.int .u64 0, .int .u64 0, .int .u64 0, .int .u64 0, .int .u64 0, .int .u64 0, .int .u64 0, .int .u64 0], 110) (by simp) (hL 10 (by omega))
  have hS := hA.below
  clear hA hL
  simp only [List.nil_append, List.cons_append, List.foldl_cons, List.foldl_nil, hg7]
  refine Ph.last ?_
  simp only [List.drop_succ_cons, List.drop_zero, List.take_succ_cons, List.take_zero, Nat.reduceSub, Nat.sub_zero]
  clear hg7 p0 p1 q0 q1
  have hG5 := HG.out.step hS
  have hG7 : Box w3 g7 [.int .u64 0, .int .u64 0, .int .u64 0, .int .u64 0, .int .u64 0, .int .u64 0, .int .u64 0, .int .u64 0] 110 := hb7
  have k7 : w2.heap.size ≤ g7 := hge7
  have k8 := HG.out.lt
  have hW3 : Below w.heap.size w w3 := HW.out.trans (hS.mono HW.out.size)
  have n1 : ¬ g7 = g5 := by omega
  have k9 : w.heap.size ≤ g7 := by omega
  have n2 : ¬ g5 = g7 := by omega
  have y0 := (hG7).cell 0; have y1 := (hG7).cell 1; have y2 := (hG7).cell 2; have y3 := (hG7).cell 3; have y4 := (hG7).cell 4; have y5 := (hG7).cell 5; have y6 := (hG7).cell 6; have y7 := (hG7).cell 7; have yf := (hG7).free
  simp only [List.getElem?_cons_zero, List.getElem?_cons_succ] at y0 y1 y2 y3 y4 y5 y6 y7
  have x0 := (hG5).cell 0; have x1 := (hG5).cell 1; have x2 := (hG5).cell 2; have x3 := (hG5).cell 3; have x4 := (hG5).cell 4; have x5 := (hG5).cell 5; have x6 := (hG5).cell 6; have x7 := (hG5).cell 7; have xf := (hG5).free
  simp only [List.getElem?_cons_zero, List.getElem?_cons_succ] at x0 x1 x2 x3 x4 x5 x6 x7
  clear hG5 hG7 hb7 hS hge7 k7 k8 k6
  go_wp2_with fail
  refine ((cmpSC (p.n * q.d) (q.n * p.d) i1 i2 _).eq (by rw [HE.out])).mono ?_
  rintro e w5 ⟨rfl, hS5⟩
  have hW4 : Below w.heap.size w (((((((((w3.setCell ⟨g7, 0, none⟩ (.int .u64 (of8 (q.n * p.d)).a)).setCell ⟨g7, 1, none⟩ (.int .u64 (of8 (q.n * p.d)).b)).setCell ⟨g7, 2, none⟩ (.int .u64 (of8 (q.n * p.d)).c)).setCell ⟨g7, 3, none⟩ (.int .u64 (of8 (q.n * p.d)).d)).setCell ⟨g7, 4, none⟩ (.int .u64 (of8 (q.n * p.d)).e)).setCell ⟨g7, 5, none⟩ (.int .u64 (of8 (q.n * p.d)).f)).setCell ⟨g7, 6, none⟩ (.int .u64 (of8 (q.n * p.d)).g)).setCell ⟨g7, 7, none⟩ (.int .u64 (of8 (q.n * p.d)).h))) := (((((((((hW3).setCell (by first | (simp; omega) | omega) _).setCell (by first | (simp; omega) | omega) _).setCell (by first | (simp; omega) | omega) _).setCell (by first | (simp; omega) | omega) _).setCell (by first | (simp; omega) | omega) _).setCell (by first | (simp; omega) | omega) _).setCell (by first | (simp; omega) | omega) _).setCell (by first | (simp; omega) | omega) _)
  go_wp2
  go_ret
  exact ⟨by rw [← HR.out]; rfl, hW4.trans (hS5.mono hW4.size)⟩
end Go.Proofs.Ytbcjnckejkjfeaa
