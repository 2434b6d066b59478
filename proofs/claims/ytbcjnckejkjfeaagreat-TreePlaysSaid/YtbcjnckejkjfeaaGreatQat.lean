/- Parts of a way, and numbers of a point: the walks. No condition. Does a way come to a bound: the walk. No condition. -/
import Derived.Test.YtbcjnckejkjfeaaGreatQas
import Derived.Test.YtbcjnckejkjfeaaGreatQag
import Derived.Test.YtbcjnckejkjfeaaGreatQac
namespace Go.Proofs.YtbcjnckejkjfeaaGreat
set_option linter.unusedVariables false
set_option linter.unusedSimpArgs false
open Go.RowKit Go.NP
theorem cf67 (args : Array Value) (w1 : World) : (callFunc 67 args).run Tryz.prog w1 = .ok (.enter 67 args) w1 := enters Tryz.func67 (by kernel_rfl) (by kernel_rfl) args w1
theorem cf68 (args : Array Value) (w1 : World) : (callFunc 68 args).run Tryz.prog w1 = .ok (.enter 68 args) w1 := enters Tryz.func68 (by kernel_rfl) (by kernel_rfl) args w1
set_option maxHeartbeats 400000 in
theorem numC (p : Pt) (w : World) : RetB Tryz.prog 67 #[.agg #[.int .i64 p.x, .int .i64 p.y, .int .i64 p.z]] w (.agg #[.int .i64 p.x, .int .i64 p.y, .int .i64 p.z]) := by
  unfold RetB
  go_enter Tryz.func67, Tryz.ntmps67
  go_wp2
  exact bodyPost_ret (v := .agg #[.int .i64 p.x, .int .i64 p.y, .int .i64 p.z]) (by simp [results, Tryz.results67, go_sem]) rfl ⟨rfl, ((Below.refl _ _).alloc (Nat.le_refl _) _).alloc (by simp) _⟩
/-- A fraction, with its divisor. -/
structure Fr where
  n : Int
  d : Int
def small (n : Int) : Prop := -2147483648 ≤ n ∧ n ≤ 2147483648
theorem small_mul {a b : Int} (ha : small a) (hb : small b) : i63 (a * b) := by
  obtain ⟨m0, m1, hm⟩ := mag_mul ha hb
  unfold i63
  rw [hm]
  generalize mag a * mag b = m at *
  split <;> omega
def above (p q : Fr) : Bool := decide (q.n * p.d < p.n * q.d)
set_option maxRecDepth 100000 in
set_option maxHeartbeats 4000000 in
theorem abvC (p q : Fr) (h1 : small p.n) (h2 : small p.d) (h3 : small q.n) (h4 : small q.d) (w : World) :
    RetB Tryz.prog 68 #[.agg #[.int .i64 p.n, .int .i64 p.d], .agg #[.int .i64 q.n, .int .i64 q.d]] w (.bool (above p q)) := by
  have i1 := small_mul h1 h4
  have i2 := small_mul h3 h2
  have hr : decide (0 < (if p.n * q.d = q.n * p.d then (0 : Int) else if p.n * q.d < q.n * p.d then -1 else 1)) = above p q := by
    unfold above
    apply decide_eq_decide.2
    split
    · omega
    · split <;> omega
  generalize hre : (if p.n * q.d = q.n * p.d then (0 : Int) else if p.n * q.d < q.n * p.d then -1 else 1) = r at hr
  have HR := Lib.hid hr; have HE := Lib.hid hre
  clear hr hre
  unfold RetB
  go_enter Tryz.func68, Tryz.ntmps68
  go_wp2
  refine wp_region_ph [(11, .fre [10] [9])] (by kernel_rfl) (by kernel_rfl) ?_
  refine Ph.eagerd [(10, [.int .u64 0, .int .u64 0, .int .u64 0, .int .u64 0, .int .u64 0, .int .u64 0, .int .u64 0, .int .u64 0], 127)] (by rfl) (fun d c a v w h => by cases d <;> exact h) ?_
  simp only [List.drop_succ_cons, List.drop_zero, List.take_succ_cons, List.take_zero, Nat.reduceSub, Nat.sub_zero]
  iterate 2 (refine SeqO.val (v := ?_) (by rfl) (by rfl) (fun w1 hS => ?_) ?_; rotate_left; (· obtain ⟨hc, hcf⟩ := bcell hS; go_simp; try with_reducible rfl); simp only [Act.put, List.setIfInBounds_toArray, List.set_cons_zero, List.set_cons_succ])
  refine SeqO.callv (by rfl) (by rfl) (by rfl) cf87 (by simp [Act.eval]) (fun w1 hS => ofWC p.n w1) ?_
  simp only [Act.put, List.setIfInBounds_toArray, List.set_cons_zero, List.set_cons_succ]
  iterate 2 (refine SeqO.val (v := ?_) (by rfl) (by rfl) (fun w1 hS => ?_) ?_; rotate_left; (· obtain ⟨hc, hcf⟩ := bcell hS; go_simp; try with_reducible rfl); simp only [Act.put, List.setIfInBounds_toArray, List.set_cons_zero, List.set_cons_succ])
  refine SeqO.callv (by rfl) (by rfl) (by rfl) cf87 (by simp [Act.eval]) (fun w1 hS => ofWC q.d w1) ?_
  simp only [Act.put, List.setIfInBounds_toArray, List.set_cons_zero, List.set_cons_succ]
  refine SeqO.callv (by rfl) (by rfl) (by rfl) cf86 (by simp [Act.eval]) (fun w1 hS => mulSC p.n q.d h1 h4 w1) ?_
  simp only [Act.put, List.setIfInBounds_toArray, List.set_cons_zero, List.set_cons_succ]
  iterate 2 (refine SeqO.val (v := ?_) (by rfl) (by rfl) (fun w1 hS => ?_) ?_; rotate_left; (· obtain ⟨hc, hcf⟩ := bcell hS; go_simp; try with_reducible rfl); simp only [Act.put, List.setIfInBounds_toArray, List.set_cons_zero, List.set_cons_succ])
  refine SeqO.eager (v := ?_) (by rfl) (by rfl) (fun w1 => ?_) ?_; rotate_left; (· go_simp; try with_reducible rfl); simp only [Act.put, List.setIfInBounds_toArray, List.set_cons_zero, List.set_cons_succ]
  refine SeqO.alloc (cs := [.int .u64 0, .int .u64 0, .int .u64 0, .int .u64 0, .int .u64 0, .int .u64 0, .int .u64 0, .int .u64 0]) (Ty := 127) (by rfl) ⟨127, by simp⟩ (by rfl) (by simp) (by rfl) (fun w => by go_simp) ?_
  refine SeqO.nil fun L u w1 hL hA => ?_
  obtain ⟨g5, hg5, hge5, hb5⟩ := hA.made (10, [.int .u64 0, .int .u64 0, .int .u64 0, .int .u64 0, .int .u64 0, .int .u64 0, .int .u64 0, .int .u64 0], 127) (by simp) (hL 10 (by omega))
  have hS := hA.below
  clear hA hL
  simp only [List.nil_append, List.cons_append, List.foldl_cons, List.foldl_nil, hg5]
  refine Ph.last ?_
  simp only [List.drop_succ_cons, List.drop_zero, List.take_succ_cons, List.take_zero, Nat.reduceSub, Nat.sub_zero]
  clear hg5
  have k5 : w.heap.size + 1 < g5 := by simp at hge5; omega
  clear hge5
  have hP : Box w1 w.heap.size [.int .i64 p.n, .int .i64 p.d] 106 := ((Box.new rfl).alloc _).step hS
  have hQ : Box w1 (w.heap.size + 1) [.int .i64 q.n, .int .i64 q.d] 106 := (Box.new (by simp)).step hS
  have hG : Box w1 g5 [.int .u64 0, .int .u64 0, .int .u64 0, .int .u64 0, .int .u64 0, .int .u64 0, .int .u64 0, .int .u64 0] 127 := hb5
  have hW : Below w.heap.size w w1 := (((Below.refl _ _).alloc (Nat.le_refl _) _).alloc (by simp) _).trans (hS.mono (by simp; omega))
  clear hb5 hS
  have k6 := hG.lt
  have HI : Box (((((((((w1.setCell ⟨g5, 0, none⟩ (.int .u64 (of8 (p.n * q.d)).a)).setCell ⟨g5, 1, none⟩ (.int .u64 (of8 (p.n * q.d)).b)).setCell ⟨g5, 2, none⟩ (.int .u64 (of8 (p.n * q.d)).c)).setCell ⟨g5, 3, none⟩ (.int .u64 (of8 (p.n * q.d)).d)).setCell ⟨g5, 4, none⟩ (.int .u64 (of8 (p.n * q.d)).e)).setCell ⟨g5, 5, none⟩ (.int .u64 (of8 (p.n * q.d)).f)).setCell ⟨g5, 6, none⟩ (.int .u64 (of8 (p.n * q.d)).g)).setCell ⟨g5, 7, none⟩ (.int .u64 (of8 (p.n * q.d)).h))) w.heap.size [.int .i64 p.n, .int .i64 p.d] 106 ∧ Box (((((((((w1.setCell ⟨g5, 0, none⟩ (.int .u64 (of8 (p.n * q.d)).a)).setCell ⟨g5, 1, none⟩ (.int .u64 (of8 (p.n * q.d)).b)).setCell ⟨g5, 2, none⟩ (.int .u64 (of8 (p.n * q.d)).c)).setCell ⟨g5, 3, none⟩ (.int .u64 (of8 (p.n * q.d)).d)).setCell ⟨g5, 4, none⟩ (.int .u64 (of8 (p.n * q.d)).e)).setCell ⟨g5, 5, none⟩ (.int .u64 (of8 (p.n * q.d)).f)).setCell ⟨g5, 6, none⟩ (.int .u64 (of8 (p.n * q.d)).g)).setCell ⟨g5, 7, none⟩ (.int .u64 (of8 (p.n * q.d)).h))) (w.heap.size + 1) [.int .i64 q.n, .int .i64 q.d] 106 ∧ Box (((((((((w1.setCell ⟨g5, 0, none⟩ (.int .u64 (of8 (p.n * q.d)).a)).setCell ⟨g5, 1, none⟩ (.int .u64 (of8 (p.n * q.d)).b)).setCell ⟨g5, 2, none⟩ (.int .u64 (of8 (p.n * q.d)).c)).setCell ⟨g5, 3, none⟩ (.int .u64 (of8 (p.n * q.d)).d)).setCell ⟨g5, 4, none⟩ (.int .u64 (of8 (p.n * q.d)).e)).setCell ⟨g5, 5, none⟩ (.int .u64 (of8 (p.n * q.d)).f)).setCell ⟨g5, 6, none⟩ (.int .u64 (of8 (p.n * q.d)).g)).setCell ⟨g5, 7, none⟩ (.int .u64 (of8 (p.n * q.d)).h))) g5 [.int .u64 (of8 (p.n * q.d)).a, .int .u64 (of8 (p.n * q.d)).b, .int .u64 (of8 (p.n * q.d)).c, .int .u64 (of8 (p.n * q.d)).d, .int .u64 (of8 (p.n * q.d)).e, .int .u64 (of8 (p.n * q.d)).f, .int .u64 (of8 (p.n * q.d)).g, .int .u64 (of8 (p.n * q.d)).h] 127 ∧ Below w.heap.size w (((((((((w1.setCell ⟨g5, 0, none⟩ (.int .u64 (of8 (p.n * q.d)).a)).setCell ⟨g5, 1, none⟩ (.int .u64 (of8 (p.n * q.d)).b)).setCell ⟨g5, 2, none⟩ (.int .u64 (of8 (p.n * q.d)).c)).setCell ⟨g5, 3, none⟩ (.int .u64 (of8 (p.n * q.d)).d)).setCell ⟨g5, 4, none⟩ (.int .u64 (of8 (p.n * q.d)).e)).setCell ⟨g5, 5, none⟩ (.int .u64 (of8 (p.n * q.d)).f)).setCell ⟨g5, 6, none⟩ (.int .u64 (of8 (p.n * q.d)).g)).setCell ⟨g5, 7, none⟩ (.int .u64 (of8 (p.n * q.d)).h))) :=
    ⟨((((((((hP).other (by simp; omega) _).other (by simp; omega) _).other (by simp; omega) _).other (by simp; omega) _).other (by simp; omega) _).other (by simp; omega) _).other (by simp; omega) _).other (by simp; omega) _, ((((((((hQ).other (by simp; omega) _).other (by simp; omega) _).other (by simp; omega) _).other (by simp; omega) _).other (by simp; omega) _).other (by simp; omega) _).other (by simp; omega) _).other (by simp; omega) _, ((((((((hG).set 0 _).set 1 _).set 2 _).set 3 _).set 4 _).set 5 _).set 6 _).set 7 _, ((((((((hW).setCell (by first | (simp; omega) | omega) _).setCell (by first | (simp; omega) | omega) _).setCell (by first | (simp; omega) | omega) _).setCell (by first | (simp; omega) | omega) _).setCell (by first | (simp; omega) | omega) _).setCell (by first | (simp; omega) | omega) _).setCell (by first | (simp; omega) | omega) _).setCell (by first | (simp; omega) | omega) _⟩
  have y0 := (hG).cell 0; have y1 := (hG).cell 1; have y2 := (hG).cell 2; have y3 := (hG).cell 3; have y4 := (hG).cell 4; have y5 := (hG).cell 5; have y6 := (hG).cell 6; have y7 := (hG).cell 7; have yf := (hG).free
  simp only [List.getElem?_cons_zero, List.getElem?_cons_succ] at y0 y1 y2 y3 y4 y5 y6 y7
  clear hP hQ hG hW
  go_wp2
  clear y0 y1 y2 y3 y4 y5 y6 y7 yf
  revert HI
  generalize ((((((((w1.setCell ⟨g5, 0, none⟩ (.int .u64 (of8 (p.n * q.d)).a)).setCell ⟨g5, 1, none⟩ (.int .u64 (of8 (p.n * q.d)).b)).setCell ⟨g5, 2, none⟩ (.int .u64 (of8 (p.n * q.d)).c)).setCell ⟨g5, 3, none⟩ (.int .u64 (of8 (p.n * q.d)).d)).setCell ⟨g5, 4, none⟩ (.int .u64 (of8 (p.n * q.d)).e)).setCell ⟨g5, 5, none⟩ (.int .u64 (of8 (p.n * q.d)).f)).setCell ⟨g5, 6, none⟩ (.int .u64 (of8 (p.n * q.d)).g)).setCell ⟨g5, 7, none⟩ (.int .u64 (of8 (p.n * q.d)).h)) = w2
  rintro ⟨hP, hQ, hG, hW⟩
  have p0 := hP.cell 0; have p1 := hP.cell 1; have q0 := hQ.cell 0; have q1 := hQ.cell 1
  simp only [List.getElem?_cons_zero, List.getElem?_cons_succ] at p0 p1 q0 q1
  have l0 := hP.lt; have l1 := hQ.lt
  have HP := Lib.hid hP; have HQ := Lib.hid hQ; have HG := Lib.hid hG; have HW := Lib.hid hW
  clear hP hQ hG hW
  refine wp_region_ph [(11, .fre [10] [9])] (by kernel_rfl) (by kernel_rfl) ?_
  refine Ph.eagerd [(10, [.int .u64 0, .int .u64 0, .int .u64 0, .int .u64 0, .int .u64 0, .int .u64 0, .int .u64 0, .int .u64 0], 127)] (by rfl) (fun d c a v w h => by cases d <;> exact h) ?_
  simp only [List.drop_succ_cons, List.drop_zero, List.take_succ_cons, List.take_zero, Nat.reduceSub, Nat.sub_zero]
  iterate 2 (refine SeqO.val (v := ?_) (by rfl) (by rfl) (fun w1 hS => ?_) ?_; rotate_left; (· obtain ⟨hc, hcf⟩ := bcell hS; go_simp; try with_reducible rfl); simp only [Act.put, List.setIfInBounds_toArray, List.set_cons_zero, List.set_cons_succ])
  refine SeqO.callv (by rfl) (by rfl) (by rfl) cf87 (by simp [Act.eval]) (fun w1 hS => ofWC q.n w1) ?_
  simp only [Act.put, List.setIfInBounds_toArray, List.set_cons_zero, List.set_cons_succ]
  iterate 2 (refine SeqO.val (v := ?_) (by rfl) (by rfl) (fun w1 hS => ?_) ?_; rotate_left; (· obtain ⟨hc, hcf⟩ := bcell hS; go_simp; try with_reducible rfl); simp only [Act.put, List.setIfInBounds_toArray, List.set_cons_zero, List.set_cons_succ])
  refine SeqO.callv (by rfl) (by rfl) (by rfl) cf87 (by simp [Act.eval]) (fun w1 hS => ofWC p.d w1) ?_
  simp only [Act.put, List.setIfInBounds_toArray, List.set_cons_zero, List.set_cons_succ]
  refine SeqO.callv (by rfl) (by rfl) (by rfl) cf86 (by simp [Act.eval]) (fun w1 hS => mulSC q.n p.d h3 h2 w1) ?_
  simp only [Act.put, List.setIfInBounds_toArray, List.set_cons_zero, List.set_cons_succ]
  iterate 2 (refine SeqO.val (v := ?_) (by rfl) (by rfl) (fun w1 hS => ?_) ?_; rotate_left; (· obtain ⟨hc, hcf⟩ := bcell hS; go_simp; try with_reducible rfl); simp only [Act.put, List.setIfInBounds_toArray, List.set_cons_zero, List.set_cons_succ])
  refine SeqO.eager (v := ?_) (by rfl) (by rfl) (fun w1 => ?_) ?_; rotate_left; (· go_simp; try with_reducible rfl); simp only [Act.put, List.setIfInBounds_toArray, List.set_cons_zero, List.set_cons_succ]
  refine SeqO.alloc (cs := [.int .u64 0, .int .u64 0, .int .u64 0, .int .u64 0, .int .u64 0, .int .u64 0, .int .u64 0, .int .u64 0]) (Ty := 127) (by rfl) ⟨127, by simp⟩ (by rfl) (by simp) (by rfl) (fun w => by go_simp) ?_
  refine SeqO.nil fun L u w3 hL hA => ?_
  obtain ⟨g7, hg7, hge7, hb7⟩ := hA.made (10, [.int .u64 0, .int .u64 0, .int .u64 0, .int .u64 0, .int .u64 0, .int .u64 0, .int .u64 0, .int .u64 0], 127) (by simp) (hL 10 (by omega))
  have hS := hA.below
  clear hA hL
  simp only [List.nil_append, List.cons_append, List.foldl_cons, List.foldl_nil, hg7]
  refine Ph.last ?_
  simp only [List.drop_succ_cons, List.drop_zero, List.take_succ_cons, List.take_zero, Nat.reduceSub, Nat.sub_zero]
  clear hg7 p0 p1 q0 q1
  have hG5 := HG.out.step hS
  have hG7 : Box w3 g7 [.int .u64 0, .int .u64 0, .int .u64 0, .int .u64 0, .int .u64 0, .int .u64 0, .int .u64 0, .int .u64 0] 127 := hb7
  have k7 : w2.heap.size ≤ g7 := hge7
  have k8 := HG.out.lt
  have hW3 : Below w.heap.size w w3 := HW.out.trans (hS.mono HW.out.size)
  have n1 : ¬ g7 = g5 := by omega
  have k9 : w.heap.size ≤ g7 := by omega
  have n2 : ¬ g5 = g7 := by omega
  have y0 := (hG7).cell 0; have y1 := (hG7).cell 1; have y2 := (hG7).cell 2; have y3 := (hG7).cell 3; have y4 := (hG7).cell 4; have y5 := (hG7).cell 5; have y6 := (hG7).cell 6; have y7 := (hG7).cell 7; have yf := (hG7).free
  simp only [List.getElem?_cons_zero, List.getElem?_cons_succ] at y0 y1 y2 y3 y4 y5 y6 y7
  have x0 := (hG5).cell 0; have x1 := (hG5).cell 1; have x2 := (hG5).cell 2; have x3 := (hG5).cell 3; have x4 := (hG5).cell 4; have x5 := (hG5).cell 5; have x6 := (hG5).cell 6; have x7 := (hG5).cell 7; have xf := (hG5).free
  simp only [List.getElem?_cons_zero, List.getElem?_cons_succ] at x0 x1 x2 x3 x4 x5 x6 x7
  clear hG5 hG7 hb7 hS hge7 k7 k8 k6
  go_wp2_with fail
  refine ((cmpSC (p.n * q.d) (q.n * p.d) i1 i2 _).eq (by rw [HE.out])).mono ?_
  rintro e w5 ⟨rfl, hS5⟩
  have hW4 : Below w.heap.size w (((((((((w3.setCell ⟨g7, 0, none⟩ (.int .u64 (of8 (q.n * p.d)).a)).setCell ⟨g7, 1, none⟩ (.int .u64 (of8 (q.n * p.d)).b)).setCell ⟨g7, 2, none⟩ (.int .u64 (of8 (q.n * p.d)).c)).setCell ⟨g7, 3, none⟩ (.int .u64 (of8 (q.n * p.d)).d)).setCell ⟨g7, 4, none⟩ (.int .u64 (of8 (q.n * p.d)).e)).setCell ⟨g7, 5, none⟩ (.int .u64 (of8 (q.n * p.d)).f)).setCell ⟨g7, 6, none⟩ (.int .u64 (of8 (q.n * p.d)).g)).setCell ⟨g7, 7, none⟩ (.int .u64 (of8 (q.n * p.d)).h))) := (((((((((hW3).setCell (by first | (simp; omega) | omega) _).setCell (by first | (simp; omega) | omega) _).setCell (by first | (simp; omega) | omega) _).setCell (by first | (simp; omega) | omega) _).setCell (by first | (simp; omega) | omega) _).setCell (by first | (simp; omega) | omega) _).setCell (by first | (simp; omega) | omega) _).setCell (by first | (simp; omega) | omega) _)
  go_wp2
  go_ret
  exact ⟨by rw [← HR.out]; rfl, hW4.trans (hS5.mono hW4.size)⟩
end Go.Proofs.YtbcjnckejkjfeaaGreat
namespace Go.Proofs.YtbcjnckejkjfeaaGreat
set_option linter.unusedVariables false
set_option linter.unusedSimpArgs false
open Go.RowKit Go.NP
theorem cf47 (args : Array Value) (w1 : World) : (callFunc 47 args).run Tryz.prog w1 = .ok (.enter 47 args) w1 := enters Tryz.func47 (by kernel_rfl) (by kernel_rfl) args w1
def ax (p : Pt) (k : Nat) : Int := match k with | 0 => p.x | 1 => p.y | _ => p.z
def hfirst (lo hi f t : Int) : Fr := if t - f < 0 then ⟨f - hi, -(t - f)⟩ else ⟨lo - f, t - f⟩
def hlast (lo hi f t : Int) : Fr := if t - f < 0 then ⟨f - lo, -(t - f)⟩ else ⟨hi - f, t - f⟩
def hstep (lo hi f t : Int) (s : Fr × Fr) : Option (Fr × Fr) :=
  if t - f = 0 then (if f < lo ∨ hi < f then none else some s)
  else some (if above (hfirst lo hi f t) s.1 = true then hfirst lo hi f t else s.1, if above s.2 (hlast lo hi f t) = true then hlast lo hi f t else s.2)
def hst (a : Bd) (f t : Pt) : Nat → Option (Fr × Fr)
  | 0 => some (⟨0, 1⟩, ⟨1, 1⟩)
  | k + 1 => (hst a f t k).bind (hstep (ax a.lo k) (ax a.hi k) (ax f k) (ax t k))
def hitS (a : Bd) (f t : Pt) : Bool := if a.ok ∧ f.ok ∧ t.ok then (match hst a f t 3 with | none => false | some s => !above s.1 s.2) else false
theorem hit_no {a : Bd} {f t : Pt} (h : ¬ (a.ok ∧ f.ok ∧ t.ok)) : hitS a f t = false := if_neg h
/-- What the loop over the axes keeps. -/
structure HitI (W : World) (b0 b1 gf gt gl gh : Nat) (f t l h : Pt) (i o : Fr) (w : World) : Prop where
  F : Box w gf [.int .i64 f.x, .int .i64 f.y, .int .i64 f.z] 104
  T : Box w gt [.int .i64 t.x, .int .i64 t.y, .int .i64 t.z] 104
  L : Box w gl [.int .i64 l.x, .int .i64 l.y, .int .i64 l.z] 104
  H : Box w gh [.int .i64 h.x, .int .i64 h.y, .int .i64 h.z] 104
  I : Box w b0 [.int .i64 i.n, .int .i64 i.d] 106
  O : Box w b1 [.int .i64 o.n, .int .i64 o.d] 106
  W : Below W.heap.size W w
structure HitD (n b0 b1 gf gt gl gh : Nat) : Prop where
  a : n < b0
  b : n < b1
  c : ¬ b0 = b1
  d : b1 < gf
  e : b1 < gt
  f : b1 < gl
  g : b1 < gh
  h : b0 < b1
theorem HitI.step {W : World} {b0 b1 gf gt gl gh : Nat} {f t l h : Pt} {i o : Fr} {w w' : World} (x : HitI W b0 b1 gf gt gl gh f t l h i o w) (hb : Below w.heap.size w w') : HitI W b0 b1 gf gt gl gh f t l h i o w' :=
  ⟨x.F.step hb, x.T.step hb, x.L.step hb, x.H.step hb, x.I.step hb, x.O.step hb, x.W.trans (hb.mono x.W.size)⟩
theorem ptr_ne {u : Nat → Value} {i j g g' : Nat} (h : u i = .pointer (some ⟨g, 0, none⟩)) (h' : u j = .pointer (some ⟨g', 0, none⟩)) (hne : u i ≠ u j) : ¬ g = g' := fun e => hne (by rw [h, h', e])
set_option maxRecDepth 100000 in
set_option maxHeartbeats 2000000 in
theorem hitN (a : Bd) (f t : Pt) (h : ¬ (a.ok ∧ f.ok ∧ t.ok)) (w : World) : RetB Tryz.prog 47 #[.agg #[.int .i64 a.lo.x, .int .i64 a.lo.y, .int .i64 a.lo.z, .int .i64 a.hi.x, .int .i64 a.hi.y, .int .i64 a.hi.z], .agg #[.int .i64 f.x, .int .i64 f.y, .int .i64 f.z], .agg #[.int .i64 t.x, .int .i64 t.y, .int .i64 t.z]] w (.bool false) := by
  unfold RetB
  by_cases ha : a.ok
  · by_cases hf : f.ok
    · have ht : ¬ t.ok := fun ht => h ⟨ha, hf, ht⟩
      clear h
      go_enter Tryz.func47, Tryz.ntmps47
      go_wp2_with fail
      refine (may1_ok a _ _ (by exact at_new (by simp)) ha).mono ?_
      rintro e w1 ⟨rfl, hS⟩
      have hW : Below w.heap.size w w1 := ((((((Below.refl _ _).alloc (Nat.le_refl _) _).alloc (by simp) _).alloc (by simp; omega) _)).alloc (by simp; omega) _).trans (hS.mono (by simp; omega))
      have hF : Box w1 (w.heap.size + 1) [.int .i64 f.x, .int .i64 f.y, .int .i64 f.z] 36 := (((Box.new (by simp)).alloc _).alloc _).step hS
      have hT : Box w1 (w.heap.size + 1 + 1) [.int .i64 t.x, .int .i64 t.y, .int .i64 t.z] 36 := ((Box.new (by simp)).alloc _).step hS
      have p0 := (hF).cell 0; have p1 := (hF).cell 1; have p2 := (hF).cell 2; have pf := (hF).free
      simp only [List.getElem?_cons_zero, List.getElem?_cons_succ] at p0 p1 p2
      go_wp2_with fail
      refine (gcheck_ok f _ hf).mono ?_
      rintro e w2 ⟨rfl, hS2⟩
      have hT2 := hT.step hS2
      have hW2 := hW.trans (hS2.mono hW.size)
      have q0 := (hT2).cell 0; have q1 := (hT2).cell 1; have q2 := (hT2).cell 2; have qf := (hT2).free
      simp only [List.getElem?_cons_zero, List.getElem?_cons_succ] at q0 q1 q2
      clear hF hT
      go_wp2_with fail
      refine (gcheck_no t _ ht).mono ?_
      rintro e w3 ⟨rfl, hS3⟩
      have hW3 := hW2.trans (hS3.mono hW2.size)
      go_wp2
      go_ret
      exact ⟨rfl, hW3⟩
    · clear h
      go_enter Tryz.func47, Tryz.ntmps47
      go_wp2_with fail
      refine (may1_ok a _ _ (by exact at_new (by simp)) ha).mono ?_
      rintro e w1 ⟨rfl, hS⟩
      have hW : Below w.heap.size w w1 := ((((((Below.refl _ _).alloc (Nat.le_refl _) _).alloc (by simp) _).alloc (by simp; omega) _)).alloc (by simp; omega) _).trans (hS.mono (by simp; omega))
      have hF : Box w1 (w.heap.size + 1) [.int .i64 f.x, .int .i64 f.y, .int .i64 f.z] 36 := (((Box.new (by simp)).alloc _).alloc _).step hS
      have p0 := (hF).cell 0; have p1 := (hF).cell 1; have p2 := (hF).cell 2; have pf := (hF).free
      simp only [List.getElem?_cons_zero, List.getElem?_cons_succ] at p0 p1 p2
      clear hF
      go_wp2_with fail
      refine (gcheck_no f _ hf).mono ?_
      rintro e w2 ⟨rfl, hS2⟩
      have hW2 := hW.trans (hS2.mono hW.size)
      go_wp2
      go_ret
      exact ⟨rfl, hW2⟩
  · clear h
    go_enter Tryz.func47, Tryz.ntmps47
    go_wp2_with fail
    refine (may1_no a _ _ (by exact at_new (by simp)) ha).mono ?_
    rintro e w1 ⟨rfl, hS⟩
    have hW : Below w.heap.size w w1 := ((((((Below.refl _ _).alloc (Nat.le_refl _) _).alloc (by simp) _).alloc (by simp; omega) _)).alloc (by simp; omega) _).trans (hS.mono (by simp; omega))
    go_wp2
    go_ret
    exact ⟨rfl, hW⟩
def frOk (p : Fr) : Prop := -1073741824 ≤ p.n ∧ p.n ≤ 1073741824 ∧ 0 < p.d ∧ p.d ≤ 1073741824
theorem frOk01 : frOk ⟨0, 1⟩ := by unfold frOk; decide
theorem frOk11 : frOk ⟨1, 1⟩ := by unfold frOk; decide
theorem frOk_mk {n d : Int} (h1 : -1073741824 ≤ n) (h2 : n ≤ 1073741824) (h3 : 0 < d) (h4 : d ≤ 1073741824) : frOk ⟨n, d⟩ := ⟨h1, h2, h3, h4⟩
theorem frOk.n {p : Fr} (h : frOk p) : small p.n := by
  obtain ⟨a, b, c, d⟩ := h
  exact ⟨by omega, by omega⟩
theorem frOk.d {p : Fr} (h : frOk p) : small p.d := by
  obtain ⟨a, b, c, d⟩ := h
  exact ⟨by omega, by omega⟩
theorem ax_ok {p : Pt} (h : p.ok) (k : Nat) : okN (ax p k) := by
  obtain ⟨hx, hy, hz⟩ := h
  unfold ax; split <;> assumption
theorem ax_get (p : Pt) {k : Nat} (hk : k < 3) : ([.int .i64 p.x, .int .i64 p.y, .int .i64 p.z] : List Value)[k]? = some (.int .i64 (ax p k)) := by
  rcases k with _ | _ | _ | k
  · rfl
  · rfl
  · rfl
  · omega
theorem wr64 {n : Int} (h0 : -9223372036854775808 ≤ n) (h1 : n ≤ 9223372036854775807) : IntKind.i64.wrap n = n := by rw [IntKind.wrap_i64]; omega
theorem HitI.k {W : World} {b0 b1 gf gt gl gh : Nat} {f t l h : Pt} {i o : Fr} {w : World} (x : HitI W b0 b1 gf gt gl gh f t l h i o w) {k : Nat} (hk : k < 3) {F T L H : Int} (eF : ax f k = F) (eT : ax t k = T) (eL : ax l k = L) (eH : ax h k = H) :
    w.cell? ⟨gf, k, none⟩ = some (.int .i64 F) ∧ w.cell? ⟨gt, k, none⟩ = some (.int .i64 T) ∧ w.cell? ⟨gl, k, none⟩ = some (.int .i64 L) ∧ w.cell? ⟨gh, k, none⟩ = some (.int .i64 H) ∧ gf < w.heap.size ∧ gt < w.heap.size ∧ gl < w.heap.size ∧ gh < w.heap.size := by
  subst eF eT eL eH
  refine ⟨?_, ?_, ?_, ?_, x.F.lt, x.T.lt, x.L.lt, x.H.lt⟩
  · rw [x.F.cell, ax_get _ hk]
  · rw [x.T.cell, ax_get _ hk]
  · rw [x.L.cell, ax_get _ hk]
  · rw [x.H.cell, ax_get _ hk]
theorem HitI.other {W : World} {b0 b1 gf gt gl gh : Nat} {f t l h : Pt} {i o : Fr} {w : World} (x : HitI W b0 b1 gf gt gl gh f t l h i o w) {p : Addr} (hp : p.block ≠ gf ∧ p.block ≠ gt ∧ p.block ≠ gl ∧ p.block ≠ gh ∧ p.block ≠ b0 ∧ p.block ≠ b1) (hW : W.heap.size ≤ p.block) (v : Value) :
    HitI W b0 b1 gf gt gl gh f t l h i o (w.setCell p v) :=
  ⟨x.F.other hp.1 _, x.T.other hp.2.1 _, x.L.other hp.2.2.1 _, x.H.other hp.2.2.2.1 _, x.I.other hp.2.2.2.2.1 _, x.O.other hp.2.2.2.2.2 _, x.W.setCell hW _⟩
theorem hst_none {a : Bd} {f t : Pt} {k : Nat} (h : hst a f t k = none) : hst a f t (k + 1) = none := by
  show (hst a f t k).bind _ = none
  rw [h]; rfl
theorem hst_lost {a : Bd} {f t : Pt} {k : Nat} (hk : k < 3) (h : hst a f t (k + 1) = none) : hst a f t 3 = none := by
  rcases k with _ | _ | _ | k
  · exact hst_none (hst_none h)
  · exact hst_none h
  · exact h
  · omega
theorem hit_lost {a : Bd} {f t : Pt} (ha : a.ok) (hf : f.ok) (ht : t.ok) (h : hst a f t 3 = none) : hitS a f t = false := by
  unfold hitS; rw [if_pos ⟨ha, hf, ht⟩, h]
theorem hit_some {a : Bd} {f t : Pt} {s : Fr × Fr} (ha : a.ok) (hf : f.ok) (ht : t.ok) (h : hst a f t 3 = some s) : hitS a f t = !above s.1 s.2 := by
  unfold hitS; rw [if_pos ⟨ha, hf, ht⟩, h]
theorem HitI.put {W : World} {b0 b1 gf gt gl gh : Nat} {f t l h : Pt} {i o : Fr} {w : World} (x : HitI W b0 b1 gf gt gl gh f t l h i o w) (hb : W.heap.size < b0) (hd : b0 ≠ b1 ∧ b0 ≠ gf ∧ b0 ≠ gt ∧ b0 ≠ gl ∧ b0 ≠ gh) (i' : Fr) :
    HitI W b0 b1 gf gt gl gh f t l h i' o ((w.setCell ⟨b0, 0, none⟩ (.int .i64 i'.n)).setCell ⟨b0, 1, none⟩ (.int .i64 i'.d)) :=
  ⟨(x.F.other hd.2.1 _).other hd.2.1 _, (x.T.other hd.2.2.1 _).other hd.2.2.1 _, (x.L.other hd.2.2.2.1 _).other hd.2.2.2.1 _, (x.H.other hd.2.2.2.2 _).other hd.2.2.2.2 _,
    (x.I.set 0 _).set 1 _, (x.O.other hd.1 _).other hd.1 _, (x.W.setCell (Nat.le_of_lt hb) _).setCell (Nat.le_of_lt hb) _⟩
theorem HitI.put' {W : World} {b0 b1 gf gt gl gh : Nat} {f t l h : Pt} {i o : Fr} {w : World} (x : HitI W b0 b1 gf gt gl gh f t l h i o w) (hb : W.heap.size < b1) (hd : b1 ≠ b0 ∧ b1 ≠ gf ∧ b1 ≠ gt ∧ b1 ≠ gl ∧ b1 ≠ gh) (o' : Fr) :
    HitI W b0 b1 gf gt gl gh f t l h i o' ((w.setCell ⟨b1, 0, none⟩ (.int .i64 o'.n)).setCell ⟨b1, 1, none⟩ (.int .i64 o'.d)) :=
  ⟨(x.F.other hd.2.1 _).other hd.2.1 _, (x.T.other hd.2.2.1 _).other hd.2.2.1 _, (x.L.other hd.2.2.2.1 _).other hd.2.2.2.1 _, (x.H.other hd.2.2.2.2 _).other hd.2.2.2.2 _,
    (x.I.other hd.1 _).other hd.1 _, (x.O.set 0 _).set 1 _, (x.W.setCell (Nat.le_of_lt hb) _).setCell (Nat.le_of_lt hb) _⟩
theorem HitI.drew {W : World} {b0 b1 gf gt gl gh : Nat} {f t l h : Pt} {i o : Fr} {w : World} (x : HitI W b0 b1 gf gt gl gh f t l h i o w) : HitI W b0 b1 gf gt gl gh f t l h i o w.drew :=
  ⟨x.F.drew, x.T.drew, x.L.drew, x.H.drew, x.I.drew, x.O.drew, x.W.drew⟩
set_option maxRecDepth 100000 in
set_option maxHeartbeats 4000000 in
theorem hitY (a : Bd) (f t : Pt) (ha : a.ok) (hf : f.ok) (ht : t.ok) (w : World) : RetB Tryz.prog 47 #[.agg #[.int .i64 a.lo.x, .int .i64 a.lo.y, .int .i64 a.lo.z, .int .i64 a.hi.x, .int .i64 a.hi.y, .int .i64 a.hi.z], .agg #[.int .i64 f.x, .int .i64 f.y, .int .i64 f.z], .agg #[.int .i64 t.x, .int .i64 t.y, .int .i64 t.z]] w (.bool (hitS a f t)) := by
  unfold RetB
  go_enter Tryz.func47, Tryz.ntmps47
  go_wp2_with fail
  refine (may1_ok a _ _ (by exact at_new (by simp)) ha).mono ?_
  rintro e w1 ⟨rfl, hS⟩
  have hW : Below w.heap.size w w1 := ((((((Below.refl _ _).alloc (Nat.le_refl _) _).alloc (by simp) _).alloc (by simp; omega) _)).alloc (by simp; omega) _).trans (hS.mono (by simp; omega))
  have hA : Box w1 w.heap.size [.int .i64 a.lo.x, .int .i64 a.lo.y, .int .i64 a.lo.z, .int .i64 a.hi.x, .int .i64 a.hi.y, .int .i64 a.hi.z] 38 := ((((Box.new rfl).alloc _).alloc _).alloc _).step hS
  have hF : Box w1 (w.heap.size + 1) [.int .i64 f.x, .int .i64 f.y, .int .i64 f.z] 36 := (((Box.new (by simp)).alloc _).alloc _).step hS
  have hT : Box w1 (w.heap.size + 1 + 1) [.int .i64 t.x, .int .i64 t.y, .int .i64 t.z] 36 := ((Box.new (by simp)).alloc _).step hS
  have p0 := (hF).cell 0; have p1 := (hF).cell 1; have p2 := (hF).cell 2; have pf := (hF).free
  simp only [List.getElem?_cons_zero, List.getElem?_cons_succ] at p0 p1 p2
  go_wp2_with fail
  refine (gcheck_ok f _ hf).mono ?_
  rintro e w2 ⟨rfl, hS2⟩
  have hT2 := hT.step hS2
  have hA2 := hA.step hS2
  have hF2 := hF.step hS2
  have hW2 := hW.trans (hS2.mono hW.size)
  clear p0 p1 p2 pf
  have q0 := (hT2).cell 0; have q1 := (hT2).cell 1; have q2 := (hT2).cell 2; have qf := (hT2).free
  simp only [List.getElem?_cons_zero, List.getElem?_cons_succ] at q0 q1 q2
  clear hF hT hA
  go_wp2_with fail
  refine (gcheck_ok t _ ht).mono ?_
  rintro e w3 ⟨rfl, hS3⟩
  have hT3 := hT2.step hS3
  have hA3 := hA2.step hS3
  have hF3 := hF2.step hS3
  have hW3 := hW2.trans (hS3.mono hW2.size)
  clear q0 q1 q2 qf
  clear hF2 hT2 hA2 hS hS2 hS3 hW hW2
  have HI : Box ((w3.alloc (.cells #[.int .i64 0, .int .i64 1] 106)).alloc (.cells #[.int .i64 1, .int .i64 1] 106)) w.heap.size [.int .i64 a.lo.x, .int .i64 a.lo.y, .int .i64 a.lo.z, .int .i64 a.hi.x, .int .i64 a.hi.y, .int .i64 a.hi.z] 38 ∧ Box ((w3.alloc (.cells #[.int .i64 0, .int .i64 1] 106)).alloc (.cells #[.int .i64 1, .int .i64 1] 106)) (w.heap.size + 1) [.int .i64 f.x, .int .i64 f.y, .int .i64 f.z] 36 ∧ Box ((w3.alloc (.cells #[.int .i64 0, .int .i64 1] 106)).alloc (.cells #[.int .i64 1, .int .i64 1] 106)) (w.heap.size + 1 + 1) [.int .i64 t.x, .int .i64 t.y, .int .i64 t.z] 36 ∧
      Box ((w3.alloc (.cells #[.int .i64 0, .int .i64 1] 106)).alloc (.cells #[.int .i64 1, .int .i64 1] 106)) w3.heap.size [.int .i64 0, .int .i64 1] 106 ∧ Box ((w3.alloc (.cells #[.int .i64 0, .int .i64 1] 106)).alloc (.cells #[.int .i64 1, .int .i64 1] 106)) (w3.heap.size + 1) [.int .i64 1, .int .i64 1] 106 ∧ Below w.heap.size w ((w3.alloc (.cells #[.int .i64 0, .int .i64 1] 106)).alloc (.cells #[.int .i64 1, .int .i64 1] 106)) ∧ w.heap.size + 2 < w3.heap.size ∧ (((w3.alloc (.cells #[.int .i64 0, .int .i64 1] 106)).alloc (.cells #[.int .i64 1, .int .i64 1] 106))).heap.size = w3.heap.size + 2 :=
    ⟨(hA3.alloc _).alloc _, (hF3.alloc _).alloc _, (hT3.alloc _).alloc _, (Box.new rfl).alloc _, Box.new (by simp), (hW3.alloc hW3.size _).alloc (by have := hW3.size; simp; omega) _, (by have := hT3.lt; omega), (by simp)⟩
  clear hA3 hF3 hT3 hW3
  go_wp2
  revert HI
  generalize ((w3.alloc (.cells #[.int .i64 0, .int .i64 1] 106)).alloc (.cells #[.int .i64 1, .int .i64 1] 106)) = w4
  generalize w3.heap.size = b0
  rintro ⟨hA, hF, hT, hI, hO, hW, hb0, hsz⟩
  have p0 := (hA).cell 0; have p1 := (hA).cell 1; have p2 := (hA).cell 2; have p3 := (hA).cell 3; have p4 := (hA).cell 4; have p5 := (hA).cell 5; have pf := (hA).free
  simp only [List.getElem?_cons_zero, List.getElem?_cons_succ] at p0 p1 p2 p3 p4 p5
  have q0 := (hF).cell 0; have q1 := (hF).cell 1; have q2 := (hF).cell 2; have qf := (hF).free
  simp only [List.getElem?_cons_zero, List.getElem?_cons_succ] at q0 q1 q2
  have r0 := (hT).cell 0; have r1 := (hT).cell 1; have r2 := (hT).cell 2; have rf := (hT).free
  simp only [List.getElem?_cons_zero, List.getElem?_cons_succ] at r0 r1 r2
  have j0 := hA.lt; have j1 := hF.lt; have j2 := hT.lt
  have HII := Lib.hid hI; have HOO := Lib.hid hO; have HWW := Lib.hid hW; have HSZ := Lib.hid hsz
  clear hA hF hT hI hO hW hsz
  refine wp_region_ph [(14, .free [10, 11, 12, 13])] (by kernel_rfl) (by kernel_rfl) ?_
  refine Ph.maded [(10, [.int .i64 0, .int .i64 0, .int .i64 0], 104), (11, [.int .i64 0, .int .i64 0, .int .i64 0], 104), (12, [.int .i64 0, .int .i64 0, .int .i64 0], 104), (13, [.int .i64 0, .int .i64 0, .int .i64 0], 104)] (by rfl) ?_
  simp only [List.drop_succ_cons, List.drop_zero, List.take_succ_cons, List.take_zero, Nat.reduceSub, Nat.sub_zero]
  iterate 1 (refine SeqO.val (v := ?_) (by rfl) (by rfl) (fun w1 hS => ?_) ?_; rotate_left; (· obtain ⟨hc, hcf⟩ := bcell hS; go_simp; try with_reducible rfl); simp only [Act.put, List.setIfInBounds_toArray, List.set_cons_zero, List.set_cons_succ])
  refine SeqO.callv (by rfl) (by rfl) (by rfl) cf67 (by simp [Act.eval]) (fun w1 hS => numC f w1) ?_
  simp only [Act.put, List.setIfInBounds_toArray, List.set_cons_zero, List.set_cons_succ]
  iterate 1 (refine SeqO.val (v := ?_) (by rfl) (by rfl) (fun w1 hS => ?_) ?_; rotate_left; (· obtain ⟨hc, hcf⟩ := bcell hS; go_simp; try with_reducible rfl); simp only [Act.put, List.setIfInBounds_toArray, List.set_cons_zero, List.set_cons_succ])
  refine SeqO.callv (by rfl) (by rfl) (by rfl) cf67 (by simp [Act.eval]) (fun w1 hS => numC t w1) ?_
  simp only [Act.put, List.setIfInBounds_toArray, List.set_cons_zero, List.set_cons_succ]
  iterate 2 (refine SeqO.val (v := ?_) (by rfl) (by rfl) (fun w1 hS => ?_) ?_; rotate_left; (· obtain ⟨hc, hcf⟩ := bcell hS; go_simp; try with_reducible rfl); simp only [Act.put, List.setIfInBounds_toArray, List.set_cons_zero, List.set_cons_succ])
  refine SeqO.callv (by rfl) (by rfl) (by rfl) cf67 (by simp [Act.eval]) (fun w1 hS => numC a.lo w1) ?_
  simp only [Act.put, List.setIfInBounds_toArray, List.set_cons_zero, List.set_cons_succ]
  iterate 2 (refine SeqO.val (v := ?_) (by rfl) (by rfl) (fun w1 hS => ?_) ?_; rotate_left; (· obtain ⟨hc, hcf⟩ := bcell hS; go_simp; try with_reducible rfl); simp only [Act.put, List.setIfInBounds_toArray, List.set_cons_zero, List.set_cons_succ])
  refine SeqO.callv (by rfl) (by rfl) (by rfl) cf67 (by simp [Act.eval]) (fun w1 hS => numC a.hi w1) ?_
  simp only [Act.put, List.setIfInBounds_toArray, List.set_cons_zero, List.set_cons_succ]
  refine SeqO.alloc (cs := [.int .i64 0, .int .i64 0, .int .i64 0]) (Ty := 104) (by rfl) ⟨104, by simp⟩ (by rfl) (by simp) (by rfl) (fun w => by go_simp) ?_
  refine SeqO.alloc (cs := [.int .i64 0, .int .i64 0, .int .i64 0]) (Ty := 104) (by rfl) ⟨104, by simp⟩ (by rfl) (by simp) (by rfl) (fun w => by go_simp) ?_
  refine SeqO.alloc (cs := [.int .i64 0, .int .i64 0, .int .i64 0]) (Ty := 104) (by rfl) ⟨104, by simp⟩ (by rfl) (by simp) (by rfl) (fun w => by go_simp) ?_
  refine SeqO.alloc (cs := [.int .i64 0, .int .i64 0, .int .i64 0]) (Ty := 104) (by rfl) ⟨104, by simp⟩ (by rfl) (by simp) (by rfl) (fun w => by go_simp) ?_
  refine SeqO.nil fun L u w5 hL hA => ?_
  obtain ⟨gf, hgf, hef, hbf⟩ := hA.made (10, [.int .i64 0, .int .i64 0, .int .i64 0], 104) (by simp) (hL 10 (by omega))
  obtain ⟨gt, hgt, het, hbt⟩ := hA.made (11, [.int .i64 0, .int .i64 0, .int .i64 0], 104) (by simp) (hL 11 (by omega))
  obtain ⟨gl, hgl, hel, hbl⟩ := hA.made (12, [.int .i64 0, .int .i64 0, .int .i64 0], 104) (by simp) (hL 12 (by omega))
  obtain ⟨gh, hgh, heh, hbh⟩ := hA.made (13, [.int .i64 0, .int .i64 0, .int .i64 0], 104) (by simp) (hL 13 (by omega))
  have n1 : ¬ gf = gt := ptr_ne hgf hgt (hA.ne (10, [.int .i64 0, .int .i64 0, .int .i64 0], 104) (by simp) (11, [.int .i64 0, .int .i64 0, .int .i64 0], 104) (by simp) (hL 10 (by omega)) (hL 11 (by omega)) (by simp))
  have n2 : ¬ gf = gl := ptr_ne hgf hgl (hA.ne (10, [.int .i64 0, .int .i64 0, .int .i64 0], 104) (by simp) (12, [.int .i64 0, .int .i64 0, .int .i64 0], 104) (by simp) (hL 10 (by omega)) (hL 12 (by omega)) (by simp))
  have n3 : ¬ gf = gh := ptr_ne hgf hgh (hA.ne (10, [.int .i64 0, .int .i64 0, .int .i64 0], 104) (by simp) (13, [.int .i64 0, .int .i64 0, .int .i64 0], 104) (by simp) (hL 10 (by omega)) (hL 13 (by omega)) (by simp))
  have n4 : ¬ gt = gl := ptr_ne hgt hgl (hA.ne (11, [.int .i64 0, .int .i64 0, .int .i64 0], 104) (by simp) (12, [.int .i64 0, .int .i64 0, .int .i64 0], 104) (by simp) (hL 11 (by omega)) (hL 12 (by omega)) (by simp))
  have n5 : ¬ gt = gh := ptr_ne hgt hgh (hA.ne (11, [.int .i64 0, .int .i64 0, .int .i64 0], 104) (by simp) (13, [.int .i64 0, .int .i64 0, .int .i64 0], 104) (by simp) (hL 11 (by omega)) (hL 13 (by omega)) (by simp))
  have n6 : ¬ gl = gh := ptr_ne hgl hgh (hA.ne (12, [.int .i64 0, .int .i64 0, .int .i64 0], 104) (by simp) (13, [.int .i64 0, .int .i64 0, .int .i64 0], 104) (by simp) (hL 12 (by omega)) (hL 13 (by omega)) (by simp))
  have hS := hA.below
  clear hA hL
  simp only [List.nil_append, List.cons_append, List.foldl_cons, List.foldl_nil, hgf, hgt, hgl, hgh]
  refine Ph.last ?_
  simp only [List.drop_succ_cons, List.drop_zero, List.take_succ_cons, List.take_zero, Nat.reduceSub, Nat.sub_zero]
  clear hgf hgt hgl hgh
  clear p0 p1 p2 p3 p4 p5 pf
  clear q0 q1 q2 qf
  clear r0 r1 r2 rf
  rw [HSZ.out] at hef het hel heh
  have hI := HII.out.step hS
  have hO := HOO.out.step hS
  have hW : Below w.heap.size w w5 := HWW.out.trans (hS.mono HWW.out.size)
  have hF : Box w5 gf [.int .i64 0, .int .i64 0, .int .i64 0] 104 := hbf
  have hT : Box w5 gt [.int .i64 0, .int .i64 0, .int .i64 0] 104 := hbt
  have hL : Box w5 gl [.int .i64 0, .int .i64 0, .int .i64 0] 104 := hbl
  have hH : Box w5 gh [.int .i64 0, .int .i64 0, .int .i64 0] 104 := hbh
  have HI : HitI w b0 (b0 + 1) gf gt gl gh f t a.lo a.hi ⟨0, 1⟩ ⟨1, 1⟩ ((((((((((((w5.setCell ⟨gf, 0, none⟩ (.int .i64 f.x)).setCell ⟨gf, 1, none⟩ (.int .i64 f.y)).setCell ⟨gf, 2, none⟩ (.int .i64 f.z)).setCell ⟨gt, 0, none⟩ (.int .i64 t.x)).setCell ⟨gt, 1, none⟩ (.int .i64 t.y)).setCell ⟨gt, 2, none⟩ (.int .i64 t.z)).setCell ⟨gl, 0, none⟩ (.int .i64 a.lo.x)).setCell ⟨gl, 1, none⟩ (.int .i64 a.lo.y)).setCell ⟨gl, 2, none⟩ (.int .i64 a.lo.z)).setCell ⟨gh, 0, none⟩ (.int .i64 a.hi.x)).setCell ⟨gh, 1, none⟩ (.int .i64 a.hi.y)).setCell ⟨gh, 2, none⟩ (.int .i64 a.hi.z)) :=
    ⟨((((((((((((hF).set 0 _).set 1 _).set 2 _).other (by simp; omega) _).other (by simp; omega) _).other (by simp; omega) _).other (by simp; omega) _).other (by simp; omega) _).other (by simp; omega) _).other (by simp; omega) _).other (by simp; omega) _).other (by simp; omega) _, ((((((((((((hT).other (by simp; omega) _).other (by simp; omega) _).other (by simp; omega) _).set 0 _).set 1 _).set 2 _).other (by simp; omega) _).other (by simp; omega) _).other (by simp; omega) _).other (by simp; omega) _).other (by simp; omega) _).other (by simp; omega) _, ((((((((((((hL).other (by simp; omega) _).other (by simp; omega) _).other (by simp; omega) _).other (by simp; omega) _).other (by simp; omega) _).other (by simp; omega) _).set 0 _).set 1 _).set 2 _).other (by simp; omega) _).other (by simp; omega) _).other (by simp; omega) _, ((((((((((((hH).other (by simp; omega) _).other (by simp; omega) _).other (by simp; omega) _).other (by simp; omega) _).other (by simp; omega) _).other (by simp; omega) _).other (by simp; omega) _).other (by simp; omega) _).other (by simp; omega) _).set 0 _).set 1 _).set 2 _, ((((((((((((hI).other (by simp; omega) _).other (by simp; omega) _).other (by simp; omega) _).other (by simp; omega) _).other (by simp; omega) _).other (by simp; omega) _).other (by simp; omega) _).other (by simp; omega) _).other (by simp; omega) _).other (by simp; omega) _).other (by simp; omega) _).other (by simp; omega) _, ((((((((((((hO).other (by simp; omega) _).other (by simp; omega) _).other (by simp; omega) _).other (by simp; omega) _).other (by simp; omega) _).other (by simp; omega) _).other (by simp; omega) _).other (by simp; omega) _).other (by simp; omega) _).other (by simp; omega) _).other (by simp; omega) _).other (by simp; omega) _, ((((((((((((hW).setCell (by first | (simp; omega) | omega) _).setCell (by first | (simp; omega) | omega) _).setCell (by first | (simp; omega) | omega) _).setCell (by first | (simp; omega) | omega) _).setCell (by first | (simp; omega) | omega) _).setCell (by first | (simp; omega) | omega) _).setCell (by first | (simp; omega) | omega) _).setCell (by first | (simp; omega) | omega) _).setCell (by first | (simp; omega) | omega) _).setCell (by first | (simp; omega) | omega) _).setCell (by first | (simp; omega) | omega) _).setCell (by first | (simp; omega) | omega) _⟩
  have HD : HitD w.heap.size b0 (b0 + 1) gf gt gl gh := ⟨by omega, by omega, by omega, by omega, by omega, by omega, by omega, by omega⟩
  have p0 := (hF).cell 0; have p1 := (hF).cell 1; have p2 := (hF).cell 2; have pf := (hF).free
  simp only [List.getElem?_cons_zero, List.getElem?_cons_succ] at p0 p1 p2
  have q0 := (hT).cell 0; have q1 := (hT).cell 1; have q2 := (hT).cell 2; have qf := (hT).free
  simp only [List.getElem?_cons_zero, List.getElem?_cons_succ] at q0 q1 q2
  have r0 := (hL).cell 0; have r1 := (hL).cell 1; have r2 := (hL).cell 2; have rf := (hL).free
  simp only [List.getElem?_cons_zero, List.getElem?_cons_succ] at r0 r1 r2
  have y0 := (hH).cell 0; have y1 := (hH).cell 1; have y2 := (hH).cell 2; have yf := (hH).free
  simp only [List.getElem?_cons_zero, List.getElem?_cons_succ] at y0 y1 y2
  clear hF hT hL hH hI hO hW hbf hbt hbl hbh hS
  go_wp2
  clear p0 p1 p2 pf
  clear q0 q1 q2 qf
  clear r0 r1 r2 rf
  clear y0 y1 y2 yf
  revert HI
  generalize ((((((((((((w5.setCell ⟨gf, 0, none⟩ (.int .i64 f.x)).setCell ⟨gf, 1, none⟩ (.int .i64 f.y)).setCell ⟨gf, 2, none⟩ (.int .i64 f.z)).setCell ⟨gt, 0, none⟩ (.int .i64 t.x)).setCell ⟨gt, 1, none⟩ (.int .i64 t.y)).setCell ⟨gt, 2, none⟩ (.int .i64 t.z)).setCell ⟨gl, 0, none⟩ (.int .i64 a.lo.x)).setCell ⟨gl, 1, none⟩ (.int .i64 a.lo.y)).setCell ⟨gl, 2, none⟩ (.int .i64 a.lo.z)).setCell ⟨gh, 0, none⟩ (.int .i64 a.hi.x)).setCell ⟨gh, 1, none⟩ (.int .i64 a.hi.y)).setCell ⟨gh, 2, none⟩ (.int .i64 a.hi.z)) = w6
  intro HI
  clear n1 n2 n3 n4 n5 n6 hef het hel heh j0 j1 j2
  go_loopw [43] (fun x wr => ∃ k : Nat, k ≤ 3 ∧ x = .int .i64 k ∧ ∃ s : Fr × Fr, hst a f t k = some s ∧ frOk s.1 ∧ frOk s.2 ∧ HitI w b0 (b0 + 1) gf gt gl gh f t a.lo a.hi s.1 s.2 wr) (fun x _ => 3 - (RowKit.intOf x).toNat)
  case atStart => exact ⟨0, by omega, rfl, (⟨0, 1⟩, ⟨1, 1⟩), rfl, frOk01, frOk11, HI⟩
  case round =>
    rename_i wr
    clear HI
    obtain ⟨k, hk, rfl, ⟨i, o⟩, hs, hio, hoo, HI⟩ := hrel
    obtain ⟨d1, d2, d3, d4, d5, d6, d7, d8⟩ := HD
    by_cases hlt : k < 3
    · have oF := ax_ok hf k; have oT := ax_ok ht k; have oL := ax_ok ha.1 k; have oH := ax_ok ha.2.1 k
      have hnx := Lib.hid (show hst a f t (k + 1) = hstep (ax a.lo k) (ax a.hi k) (ax f k) (ax t k) (i, o) by show (hst a f t k).bind _ = _; rw [hs]; rfl)
      have hlost := Lib.hid (hst_lost (a := a) (f := f) (t := t) (k := k) hlt)
      have hs' := Lib.hid hs
      clear hs
      generalize eF : ax f k = F at *
      generalize eT : ax t k = T at *
      generalize eL : ax a.lo k = Lo at *
      generalize eH : ax a.hi k = Hi at *
      have EK := Lib.hid (And.intro eF (And.intro eT (And.intro eL eH)))
      obtain ⟨f1, f2⟩ := oF; obtain ⟨t1, t2⟩ := oT; obtain ⟨l1, l2⟩ := oL; obtain ⟨h1, h2⟩ := oH
      have hki : (k : Int) < 3 := by omega
      obtain ⟨kF, kT, kL, kH, qF, qT, qL, qH⟩ := HI.k hlt eF eT eL eH
      clear eF eT eL eH
      have wTF : IntKind.i64.wrap (T - F) = T - F := wr64 (by omega) (by omega)
      have wLF : IntKind.i64.wrap (Lo - F) = Lo - F := wr64 (by omega) (by omega)
      have wHF : IntKind.i64.wrap (Hi - F) = Hi - F := wr64 (by omega) (by omega)
      go_wp2
      refine wp_region_ph [(7, .free [])] (by kernel_rfl) (by kernel_rfl) ?_
      refine Ph.belowd ?_
      simp only [List.drop_succ_cons, List.drop_zero, List.take_succ_cons, List.take_zero, Nat.reduceSub, Nat.sub_zero]
      iterate 7 (refine SeqO.val (v := ?_) (by rfl) (by rfl) (fun w1 hS => ?_) ?_; rotate_left; (· obtain ⟨hc, hcf⟩ := bcell hS; go_simp; try with_reducible rfl); simp only [Act.put, List.setIfInBounds_toArray, List.set_cons_zero, List.set_cons_succ])
      try simp only [wTF]
      refine SeqO.nil0 fun w7 hS => ?_
      have HI7 := HI.step hS
      clear kF kT kL kH qF qT qL qH HI hS
      refine Ph.last ?_
      simp only [List.drop_succ_cons, List.drop_zero, List.take_succ_cons, List.take_zero, Nat.reduceSub, Nat.sub_zero]
      obtain ⟨kF, kT, kL, kH, qF, qT, qL, qH⟩ := HI7.k hlt EK.out.1 EK.out.2.1 EK.out.2.2.1 EK.out.2.2.2
      go_wp2
      refine wp_region_ph [(21, .fre [18, 19, 20] [20])] (by kernel_rfl) (by kernel_rfl) ?_
      refine Ph.filld [(18, [.int .i64 0, .int .i64 0], 106), (19, [.int .i64 0, .int .i64 0], 106)] 20 18 [.int .i64 (Lo - F), .int .i64 (T - F)] (by rfl) (fun d c a v w h => by cases d <;> exact h) ?_
      simp only [List.drop_succ_cons, List.drop_zero, List.take_succ_cons, List.take_zero, Nat.reduceSub, Nat.sub_zero]
      iterate 18 (refine SeqO.valR (v := ?_) (by rfl) (by rfl) (fun w1 hS => ?_) ?_; rotate_left; (· obtain ⟨hc, hcf⟩ := bcell hS; go_simp; try with_reducible rfl); simp only [Act.put, List.setIfInBounds_toArray, List.set_cons_zero, List.set_cons_succ])
      try simp only [wLF, wHF]
      refine SeqO.allocR (cs := [.int .i64 0, .int .i64 0]) (Ty := 106) (by rfl) ⟨106, by simp⟩ (by rfl) (by simp) (by rfl) (fun w => by go_simp) ?_
      refine SeqO.allocR (cs := [.int .i64 0, .int .i64 0]) (Ty := 106) (by rfl) ⟨106, by simp⟩ (by rfl) (by simp) (by rfl) (fun w => by go_simp) ?_
      refine SeqO.fillR (cs := [.int .i64 0, .int .i64 0]) (Ty := 106) (d := some 15) (fun w g => (w.setCell ⟨g, 0, none⟩ (.int .i64 (Lo - F))).setCell ⟨g, 1, none⟩ (.int .i64 (T - F))) (by rfl) (by simp) (by simp) rfl (by simp) (fun u => by rfl) (fun u g w hu hb => ?_) (fun w g hb => (hb.set 0 _).set 1 _) (fun w g b c Tb hne hb => (hb.other (by simpa using hne.symm) _).other (by simpa using hne.symm) _) (fun w g hw hg => (hw.setCell hg _).setCell hg _) ?_
      · have b0 := hb.cell 0; have b1 := hb.cell 1; have bf := hb.free
        simp only [List.getElem?_cons_zero, List.getElem?_cons_succ] at b0 b1
        simp only [List.nil_append, List.cons_append, List.foldl_cons, List.foldl_nil, hu]
        go_simp
      refine SeqO.nilR (by omega) fun L u w8 hL hA => ?_
      obtain ⟨g1, hg1, he1, hb1⟩ := hA.made (18, [.int .i64 (Lo - F), .int .i64 (T - F)], 106) (by simp [fillAl]) (hL 18 (by omega))
      obtain ⟨g2, hg2, he2, hb2⟩ := hA.made (19, [.int .i64 0, .int .i64 0], 106) (by simp [fillAl]) (hL 19 (by omega))
      have n1 : ¬ g1 = g2 := ptr_ne hg1 hg2 (hA.ne (18, [.int .i64 (Lo - F), .int .i64 (T - F)], 106) (by simp [fillAl]) (19, [.int .i64 0, .int .i64 0], 106) (by simp [fillAl]) (hL 18 (by omega)) (hL 19 (by omega)) (by simp))
      have hS := hA.below
      clear hA hL
      simp only [List.nil_append, List.cons_append, List.foldl_cons, List.foldl_nil, hg1, hg2]
      refine Ph.last ?_
      simp only [List.drop_succ_cons, List.drop_zero, List.take_succ_cons, List.take_zero, Nat.reduceSub, Nat.sub_zero]
      clear hg1 hg2 kF kT kL kH
      have HI8 := HI7.step hS
      have hG1 : Box w8 g1 [.int .i64 (Lo - F), .int .i64 (T - F)] 106 := hb1
      have hG2 : Box w8 g2 [.int .i64 0, .int .i64 0] 106 := hb2
      have m0 := HI7.I.lt; have m1 := HI7.O.lt; have m2 := HI7.W.size
      have k0 := hG2.cell 0; have k1 := hG2.cell 1; have kf := hG2.free
      simp only [List.getElem?_cons_zero, List.getElem?_cons_succ] at k0 k1
      have he1 : w7.heap.size ≤ g1 := he1
      have he2 : w7.heap.size ≤ g2 := he2
      refine wpList_store (w' := (w8.setCell ⟨g2, 0, none⟩ (.int .i64 (Hi - F))).setCell ⟨g2, 1, none⟩ (.int .i64 (T - F))) (by rfl) (by go_simp) ?_
      have n2 : ¬ g2 = g1 := fun e => n1 e.symm
      have HI9 := (HI8.other (p := ⟨g2, 0, none⟩) ⟨by simp; omega, by simp; omega, by simp; omega, by simp; omega, by simp; omega, by simp; omega⟩ (by simp; omega) (.int .i64 (Hi - F))).other (p := ⟨g2, 1, none⟩) ⟨by simp; omega, by simp; omega, by simp; omega, by simp; omega, by simp; omega, by simp; omega⟩ (by simp; omega) (.int .i64 (T - F))
      have hP := (hG1.other (p := ⟨g2, 0, none⟩) (by simp; omega) (.int .i64 (Hi - F))).other (p := ⟨g2, 1, none⟩) (by simp; omega) (.int .i64 (T - F))
      have hQ := (hG2.set 0 (.int .i64 (Hi - F))).set 1 (.int .i64 (T - F))
      clear k0 k1 kf hG1 hG2 hb1 hb2 HI8 HI7 hS
      revert HI9 hP hQ
      generalize (w8.setCell ⟨g2, 0, none⟩ (.int .i64 (Hi - F))).setCell ⟨g2, 1, none⟩ (.int .i64 (T - F)) = w9
      intro HI hP hQ
      have hQ : Box w9 g2 [.int .i64 (Hi - F), .int .i64 (T - F)] 106 := hQ
      obtain ⟨kF, kT, kL, kH, qF, qT, qL, qH⟩ := HI.k hlt EK.out.1 EK.out.2.1 EK.out.2.2.1 EK.out.2.2.2
      have HP := Lib.hid hP; have HQ := Lib.hid hQ
      have HH := Lib.hid HI
      clear hP hQ HI wTF wLF wHF
      by_cases hd : T - F = 0
      · have e0 : (T - F == 0) = true := by simpa using hd
        by_cases c1 : F < Lo
        · have hX := Lib.hid (show hitS a f t = false from by rw [hit_lost ha hf ht (hlost.out (by rw [hnx.out]; unfold hstep; rw [if_pos hd, if_pos (.inl c1)]))])
          have e1 : decide (F < Lo) = true := decide_eq_true c1
          clear hd c1
          go_wp2
          refine wp_region_ph [(8, .free []), (15, .free [])] (by kernel_rfl) (by kernel_rfl) ?_
          refine Ph.belowd ?_
          simp only [List.drop_succ_cons, List.drop_zero, List.take_succ_cons, List.take_zero, Nat.reduceSub, Nat.sub_zero]
          iterate 8 (refine SeqO.val (v := ?_) (by rfl) (by rfl) (fun w1 hS => ?_) ?_; rotate_left; (· obtain ⟨hc, hcf⟩ := bcell hS; go_simp; try with_reducible rfl); simp only [Act.put, List.setIfInBounds_toArray, List.set_cons_zero, List.set_cons_succ])
          refine SeqO.nil0 fun w10 hS => ?_
          have HI10 := HH.out.step hS
          clear kF kT kL kH qF qT qL qH hS
          refine Ph.below ?_
          simp only [List.drop_succ_cons, List.drop_zero, List.take_succ_cons, List.take_zero, Nat.reduceSub, Nat.sub_zero]
          iterate 7 (refine SeqO.skip (by rfl) (by rfl) ?_; simp only [Act.put, List.setIfInBounds_toArray, List.set_cons_zero, List.set_cons_succ])
          refine SeqO.nil0 fun w11 hS => ?_
          have HI11 := HI10.step hS
          refine Ph.last ?_
          simp only [List.drop_succ_cons, List.drop_zero, List.take_succ_cons, List.take_zero, Nat.reduceSub, Nat.sub_zero]
          go_wp2
          rw [hX.out]
          exact bodyPost_ret (v := .bool false) (by simp [results, Tryz.results47, go_sem, *]) rfl ⟨rfl, HI11.W⟩
        · have e1 : decide (F < Lo) = false := decide_eq_false c1
          by_cases c2 : Hi < F
          · have hX := Lib.hid (show hitS a f t = false from by rw [hit_lost ha hf ht (hlost.out (by rw [hnx.out]; unfold hstep; rw [if_pos hd, if_pos (.inr c2)]))])
            have e2 : decide (Hi < F) = true := decide_eq_true c2
            clear hd c1 c2
            go_wp2
            refine wp_region_ph [(8, .free []), (15, .free [])] (by kernel_rfl) (by kernel_rfl) ?_
            refine Ph.belowd ?_
            simp only [List.drop_succ_cons, List.drop_zero, List.take_succ_cons, List.take_zero, Nat.reduceSub, Nat.sub_zero]
            iterate 8 (refine SeqO.val (v := ?_) (by rfl) (by rfl) (fun w1 hS => ?_) ?_; rotate_left; (· obtain ⟨hc, hcf⟩ := bcell hS; go_simp; try with_reducible rfl); simp only [Act.put, List.setIfInBounds_toArray, List.set_cons_zero, List.set_cons_succ])
            refine SeqO.nil0 fun w10 hS => ?_
            have HI10 := HH.out.step hS
            clear kF kT kL kH qF qT qL qH hS
            obtain ⟨kF, kT, kL, kH, qF, qT, qL, qH⟩ := HI10.k hlt EK.out.1 EK.out.2.1 EK.out.2.2.1 EK.out.2.2.2
            refine Ph.below ?_
            simp only [List.drop_succ_cons, List.drop_zero, List.take_succ_cons, List.take_zero, Nat.reduceSub, Nat.sub_zero]
            iterate 7 (refine SeqO.val (v := ?_) (by rfl) (by rfl) (fun w1 hS => ?_) ?_; rotate_left; (· obtain ⟨hc, hcf⟩ := bcell hS; go_simp; try with_reducible rfl); simp only [Act.put, List.setIfInBounds_toArray, List.set_cons_zero, List.set_cons_succ])
            refine SeqO.nil0 fun w11 hS => ?_
            have HI11 := HI10.step hS
            refine Ph.last ?_
            simp only [List.drop_succ_cons, List.drop_zero, List.take_succ_cons, List.take_zero, Nat.reduceSub, Nat.sub_zero]
            go_wp2
            rw [hX.out]
            exact bodyPost_ret (v := .bool false) (by simp [results, Tryz.results47, go_sem, *]) rfl ⟨rfl, HI11.W⟩
          · have eS := Lib.hid (show hst a f t (k + 1) = some (i, o) from by rw [hnx.out]; unfold hstep; rw [if_pos hd, if_neg (by omega)])
            have e2 : decide (Hi < F) = false := decide_eq_false c2
            clear hd c1 c2
            go_wp2
            refine wp_region_ph [(8, .free []), (15, .free [])] (by kernel_rfl) (by kernel_rfl) ?_
            refine Ph.belowd ?_
            simp only [List.drop_succ_cons, List.drop_zero, List.take_succ_cons, List.take_zero, Nat.reduceSub, Nat.sub_zero]
            iterate 8 (refine SeqO.val (v := ?_) (by rfl) (by rfl) (fun w1 hS => ?_) ?_; rotate_left; (· obtain ⟨hc, hcf⟩ := bcell hS; go_simp; try with_reducible rfl); simp only [Act.put, List.setIfInBounds_toArray, List.set_cons_zero, List.set_cons_succ])
            refine SeqO.nil0 fun w10 hS => ?_
            have HI10 := HH.out.step hS
            clear kF kT kL kH qF qT qL qH hS
            obtain ⟨kF, kT, kL, kH, qF, qT, qL, qH⟩ := HI10.k hlt EK.out.1 EK.out.2.1 EK.out.2.2.1 EK.out.2.2.2
            refine Ph.below ?_
            simp only [List.drop_succ_cons, List.drop_zero, List.take_succ_cons, List.take_zero, Nat.reduceSub, Nat.sub_zero]
            iterate 7 (refine SeqO.val (v := ?_) (by rfl) (by rfl) (fun w1 hS => ?_) ?_; rotate_left; (· obtain ⟨hc, hcf⟩ := bcell hS; go_simp; try with_reducible rfl); simp only [Act.put, List.setIfInBounds_toArray, List.set_cons_zero, List.set_cons_succ])
            refine SeqO.nil0 fun w11 hS => ?_
            have HI11 := HI10.step hS
            refine Ph.last ?_
            simp only [List.drop_succ_cons, List.drop_zero, List.take_succ_cons, List.take_zero, Nat.reduceSub, Nat.sub_zero]
            go_wp2
            go_roundw
            case rel => exact ⟨k + 1, by omega, by go_num, (i, o), eS.out, hio, hoo, HI11⟩
            case measure => simp [RowKit.intOf]; omega
      · have e0 : (T - F == 0) = false := by simpa using hd
        have z1 : ¬ g1 = b0 := by omega
        have z2 : ¬ g2 = b0 := by omega
        have z3 : ¬ g1 = b0 + 1 := by omega
        have z4 : ¬ g2 = b0 + 1 := by omega
        have z5 : ¬ b0 = g1 := by omega
        have z6 : ¬ b0 = g2 := by omega
        have z7 : ¬ b0 + 1 = g1 := by omega
        have z8 : ¬ b0 + 1 = g2 := by omega
        by_cases hneg : T - F < 0
        · have wN : IntKind.i64.wrap (-(T - F)) = -(T - F) := wr64 (by omega) (by omega)
          have wFH : IntKind.i64.wrap (F - Hi) = F - Hi := wr64 (by omega) (by omega)
          have wFL : IntKind.i64.wrap (F - Lo) = F - Lo := wr64 (by omega) (by omega)
          have e1 : decide (T - F < 0) = true := decide_eq_true hneg
          have eS := Lib.hid (show hst a f t (k + 1) = some (if above ⟨F - Hi, -(T - F)⟩ i = true then ⟨F - Hi, -(T - F)⟩ else i, if above o ⟨F - Lo, -(T - F)⟩ = true then ⟨F - Lo, -(T - F)⟩ else o) from by
            rw [hnx.out]; unfold hstep; rw [if_neg hd]; unfold hfirst hlast; rw [if_pos hneg, if_pos hneg])
          go_wp2
          refine wp_region_ph [(21, .free [])] (by kernel_rfl) (by kernel_rfl) ?_
          refine Ph.one 20 (fun w' => HitI w b0 (b0 + 1) gf gt gl gh f t a.lo a.hi i o w' ∧ Box w' g1 [.int .i64 (Lo - F), .int .i64 (T - F)] 106 ∧ Box w' g2 [.int .i64 (Hi - F), .int .i64 (T - F)] 106) (fun w' => HitI w b0 (b0 + 1) gf gt gl gh f t a.lo a.hi i o w' ∧ Box w' g1 [.int .i64 (F - Hi), .int .i64 (-(T - F))] 106 ∧ Box w' g2 [.int .i64 (Hi - F), .int .i64 (T - F)] 106) (by rfl) ⟨HH.out.drew, HP.out.drew, HQ.out.drew⟩ ?_
          simp only [List.drop_succ_cons, List.drop_zero, List.take_succ_cons, List.take_zero, Nat.reduceSub, Nat.sub_zero]
          iterate 20 (refine SeqO.val1 (v := ?_) (by rfl) (by rfl) (fun w1 hS => ?_) ?_; rotate_left; (· obtain ⟨kF, kT, kL, kH, qF, qT, qL, qH⟩ := (hS.elim (fun h => h.1) (fun h => h.1)).k hlt EK.out.1 EK.out.2.1 EK.out.2.2.1 EK.out.2.2.2; go_simp; try with_reducible rfl); simp only [Act.put, List.setIfInBounds_toArray, List.set_cons_zero, List.set_cons_succ])
          try simp only [wN, wFH, wFL]
          refine SeqO.store1 (fun w' => (w'.setCell ⟨g1, 0, none⟩ (.int .i64 (F - Hi))).setCell ⟨g1, 1, none⟩ (.int .i64 (-(T - F)))) (by rfl) (by rfl) (fun w' hR => ?_) (fun w' hR => ?_) ?_
          · obtain ⟨hA, hB, hC⟩ := hR
            have xp0 := (hB).cell 0; have xp1 := (hB).cell 1; have xpf := (hB).free
            simp only [List.getElem?_cons_zero, List.getElem?_cons_succ] at xp0 xp1
            go_simp
          · obtain ⟨hA, hB, hC⟩ := hR
            exact ⟨(hA.other (p := ⟨g1, 0, none⟩) ⟨by simp; omega, by simp; omega, by simp; omega, by simp; omega, by simp; omega, by simp; omega⟩ (by simp; omega) _).other (p := ⟨g1, 1, none⟩) ⟨by simp; omega, by simp; omega, by simp; omega, by simp; omega, by simp; omega, by simp; omega⟩ (by simp; omega) _, (hB.set 0 _).set 1 _, (hC.other (by simp; omega) _).other (by simp; omega) _⟩
          refine SeqO.nil1 (by omega) fun w10 hR => ?_
          obtain ⟨HI10, hP10, hQ10⟩ := hR
          refine Ph.last ?_
          simp only [List.drop_succ_cons, List.drop_zero, List.take_succ_cons, List.take_zero, Nat.reduceSub, Nat.sub_zero]
          have k0 := hQ10.cell 0; have k1 := hQ10.cell 1; have kf := hQ10.free
          simp only [List.getElem?_cons_zero, List.getElem?_cons_succ] at k0 k1
          clear HP HQ HH kF kT kL kH qF qT qL qH
          refine wpList_store (w' := (w10.setCell ⟨g2, 0, none⟩ (.int .i64 (F - Lo))).setCell ⟨g2, 1, none⟩ (.int .i64 (-(T - F)))) (by rfl) (by go_simp) ?_
          have HI11 := (HI10.other (p := ⟨g2, 0, none⟩) ⟨by simp; omega, by simp; omega, by simp; omega, by simp; omega, by simp; omega, by simp; omega⟩ (by simp; omega) (.int .i64 (F - Lo))).other (p := ⟨g2, 1, none⟩) ⟨by simp; omega, by simp; omega, by simp; omega, by simp; omega, by simp; omega, by simp; omega⟩ (by simp; omega) (.int .i64 (-(T - F)))
          have hP11 := (hP10.other (p := ⟨g2, 0, none⟩) (by simp; omega) (.int .i64 (F - Lo))).other (p := ⟨g2, 1, none⟩) (by simp; omega) (.int .i64 (-(T - F)))
          have hQ11 := (hQ10.set 0 (.int .i64 (F - Lo))).set 1 (.int .i64 (-(T - F)))
          clear k0 k1 kf HI10 hP10 hQ10
          revert HI11 hP11 hQ11
          generalize (w10.setCell ⟨g2, 0, none⟩ (.int .i64 (F - Lo))).setCell ⟨g2, 1, none⟩ (.int .i64 (-(T - F))) = w11
          intro HI hP hQ
          have hQ : Box w11 g2 [.int .i64 (F - Lo), .int .i64 (-(T - F))] 106 := hQ
          obtain ⟨kF, kT, kL, kH, qF, qT, qL, qH⟩ := HI.k hlt EK.out.1 EK.out.2.1 EK.out.2.2.1 EK.out.2.2.2
          have HP := Lib.hid hP; have HQ := Lib.hid hQ
          have HH := Lib.hid HI
          clear hP hQ HI wN wFH wFL
          have oP : frOk ⟨F - Hi, -(T - F)⟩ := frOk_mk (by omega) (by omega) (by omega) (by omega)
          have oQ : frOk ⟨F - Lo, -(T - F)⟩ := frOk_mk (by omega) (by omega) (by omega) (by omega)
          have xp0 := (HP.out).cell 0; have xp1 := (HP.out).cell 1; have xpf := (HP.out).free
          simp only [List.getElem?_cons_zero, List.getElem?_cons_succ] at xp0 xp1
          have xq0 := (HQ.out).cell 0; have xq1 := (HQ.out).cell 1; have xqf := (HQ.out).free
          simp only [List.getElem?_cons_zero, List.getElem?_cons_succ] at xq0 xq1
          have xi0 := (HH.out.I).cell 0; have xi1 := (HH.out.I).cell 1; have xif := (HH.out.I).free
          simp only [List.getElem?_cons_zero, List.getElem?_cons_succ] at xi0 xi1
          have xo0 := (HH.out.O).cell 0; have xo1 := (HH.out.O).cell 1; have xof := (HH.out.O).free
          simp only [List.getElem?_cons_zero, List.getElem?_cons_succ] at xo0 xo1
          go_wp2_with fail
          by_cases a1 : above ⟨F - Hi, -(T - F)⟩ i = true
          · refine ((abvC ⟨F - Hi, -(T - F)⟩ i oP.n oP.d hio.n hio.d _).eq (by rw [a1])).mono ?_
            rintro e w12 ⟨rfl, hS⟩
            have HI12 := HH.out.step hS; have hP12 := HP.out.step hS; have hQ12 := HQ.out.step hS
            clear xp0 xp1 xpf
            clear xq0 xq1 xqf
            clear xi0 xi1 xif
            clear xo0 xo1 xof
            clear kF kT kL kH hS
            have xp0 := (hP12).cell 0; have xp1 := (hP12).cell 1; have xpf := (hP12).free
            simp only [List.getElem?_cons_zero, List.getElem?_cons_succ] at xp0 xp1
            have xq0 := (hQ12).cell 0; have xq1 := (hQ12).cell 1; have xqf := (hQ12).free
            simp only [List.getElem?_cons_zero, List.getElem?_cons_succ] at xq0 xq1
            have xi0 := (HI12.I).cell 0; have xi1 := (HI12.I).cell 1; have xif := (HI12.I).free
            simp only [List.getElem?_cons_zero, List.getElem?_cons_succ] at xi0 xi1
            have xo0 := (HI12.O).cell 0; have xo1 := (HI12.O).cell 1; have xof := (HI12.O).free
            simp only [List.getElem?_cons_zero, List.getElem?_cons_succ] at xo0 xo1
            have HI13 := Lib.hid (HI12.put d1 ⟨by omega, by omega, by omega, by omega, by omega⟩ ⟨F - Hi, -(T - F)⟩)
            have hQ13 := Lib.hid ((hQ12.other (p := ⟨b0, 0, none⟩) (by simp; omega) (.int .i64 (⟨F - Hi, -(T - F)⟩ : Fr).n)).other (p := ⟨b0, 1, none⟩) (by simp; omega) (.int .i64 (⟨F - Hi, -(T - F)⟩ : Fr).d))
            clear HI12 hP12 hQ12
            go_wp2_with fail
            by_cases a2 : above o ⟨F - Lo, -(T - F)⟩ = true
            · refine ((abvC o ⟨F - Lo, -(T - F)⟩ hoo.n hoo.d oQ.n oQ.d _).eq (by rw [a2])).mono ?_
              rintro e w14 ⟨rfl, hS⟩
              have HI14 := HI13.out.step hS; have hQ14 := hQ13.out.step hS
              clear xp0 xp1 xpf
              clear xq0 xq1 xqf
              clear xi0 xi1 xif
              clear xo0 xo1 xof
              clear hS
              have xq0 := (hQ14).cell 0; have xq1 := (hQ14).cell 1; have xqf := (hQ14).free
              simp only [List.getElem?_cons_zero, List.getElem?_cons_succ] at xq0 xq1
              have xo0 := (HI14.O).cell 0; have xo1 := (HI14.O).cell 1; have xof := (HI14.O).free
              simp only [List.getElem?_cons_zero, List.getElem?_cons_succ] at xo0 xo1
              have HI15 := Lib.hid (HI14.put' d2 ⟨by omega, by omega, by omega, by omega, by omega⟩ ⟨F - Lo, -(T - F)⟩)
              clear HI14 hQ14
              go_wp2
              go_roundw
              case rel => exact ⟨k + 1, by omega, by go_num, (⟨F - Hi, -(T - F)⟩, ⟨F - Lo, -(T - F)⟩), by rw [eS.out, if_pos a1, if_pos a2], by assumption, by assumption, HI15.out⟩
              case measure => simp [RowKit.intOf]; omega
            · have a2' : above o ⟨F - Lo, -(T - F)⟩ = false := by simpa using a2
              refine ((abvC o ⟨F - Lo, -(T - F)⟩ hoo.n hoo.d oQ.n oQ.d _).eq (by rw [a2'])).mono ?_
              rintro e w14 ⟨rfl, hS⟩
              have HI15 := Lib.hid (HI13.out.step hS)
              clear xp0 xp1 xpf
              clear xq0 xq1 xqf
              clear xi0 xi1 xif
              clear xo0 xo1 xof
              clear hS
              go_wp2
              go_roundw
              case rel => exact ⟨k + 1, by omega, by go_num, (⟨F - Hi, -(T - F)⟩, o), by rw [eS.out, if_pos a1, if_neg a2], by assumption, by assumption, HI15.out⟩
              case measure => simp [RowKit.intOf]; omega
          · have a1' : above ⟨F - Hi, -(T - F)⟩ i = false := by simpa using a1
            refine ((abvC ⟨F - Hi, -(T - F)⟩ i oP.n oP.d hio.n hio.d _).eq (by rw [a1'])).mono ?_
            rintro e w12 ⟨rfl, hS⟩
            have HI12 := HH.out.step hS; have hQ12 := HQ.out.step hS
            clear xp0 xp1 xpf
            clear xq0 xq1 xqf
            clear xi0 xi1 xif
            clear xo0 xo1 xof
            clear kF kT kL kH hS
            have xq0 := (hQ12).cell 0; have xq1 := (hQ12).cell 1; have xqf := (hQ12).free
            simp only [List.getElem?_cons_zero, List.getElem?_cons_succ] at xq0 xq1
            have xo0 := (HI12.O).cell 0; have xo1 := (HI12.O).cell 1; have xof := (HI12.O).free
            simp only [List.getElem?_cons_zero, List.getElem?_cons_succ] at xo0 xo1
            have HI13 := Lib.hid HI12
            have hQ13 := Lib.hid hQ12
            clear HI12 hQ12
            go_wp2_with fail
            by_cases a2 : above o ⟨F - Lo, -(T - F)⟩ = true
            · refine ((abvC o ⟨F - Lo, -(T - F)⟩ hoo.n hoo.d oQ.n oQ.d _).eq (by rw [a2])).mono ?_
              rintro e w14 ⟨rfl, hS⟩
              have HI14 := HI13.out.step hS; have hQ14 := hQ13.out.step hS
              clear xq0 xq1 xqf
              clear xo0 xo1 xof
              clear hS
              have xq0 := (hQ14).cell 0; have xq1 := (hQ14).cell 1; have xqf := (hQ14).free
              simp only [List.getElem?_cons_zero, List.getElem?_cons_succ] at xq0 xq1
              have xo0 := (HI14.O).cell 0; have xo1 := (HI14.O).cell 1; have xof := (HI14.O).free
              simp only [List.getElem?_cons_zero, List.getElem?_cons_succ] at xo0 xo1
              have HI15 := Lib.hid (HI14.put' d2 ⟨by omega, by omega, by omega, by omega, by omega⟩ ⟨F - Lo, -(T - F)⟩)
              clear HI14 hQ14
              go_wp2
              go_roundw
              case rel => exact ⟨k + 1, by omega, by go_num, (i, ⟨F - Lo, -(T - F)⟩), by rw [eS.out, if_neg a1, if_pos a2], by assumption, by assumption, HI15.out⟩
              case measure => simp [RowKit.intOf]; omega
            · have a2' : above o ⟨F - Lo, -(T - F)⟩ = false := by simpa using a2
              refine ((abvC o ⟨F - Lo, -(T - F)⟩ hoo.n hoo.d oQ.n oQ.d _).eq (by rw [a2'])).mono ?_
              rintro e w14 ⟨rfl, hS⟩
              have HI15 := Lib.hid (HI13.out.step hS)
              clear xq0 xq1 xqf
              clear xo0 xo1 xof
              clear hS
              go_wp2
              go_roundw
              case rel => exact ⟨k + 1, by omega, by go_num, (i, o), by rw [eS.out, if_neg a1, if_neg a2], by assumption, by assumption, HI15.out⟩
              case measure => simp [RowKit.intOf]; omega
        · have e1 : decide (T - F < 0) = false := decide_eq_false hneg
          have eS := Lib.hid (show hst a f t (k + 1) = some (if above ⟨Lo - F, T - F⟩ i = true then ⟨Lo - F, T - F⟩ else i, if above o ⟨Hi - F, T - F⟩ = true then ⟨Hi - F, T - F⟩ else o) from by
            rw [hnx.out]; unfold hstep; rw [if_neg hd]; unfold hfirst hlast; rw [if_neg hneg, if_neg hneg])
          have oP : frOk ⟨Lo - F, T - F⟩ := frOk_mk (by omega) (by omega) (by omega) (by omega)
          have oQ : frOk ⟨Hi - F, T - F⟩ := frOk_mk (by omega) (by omega) (by omega) (by omega)
          have xp0 := (HP.out).cell 0; have xp1 := (HP.out).cell 1; have xpf := (HP.out).free
          simp only [List.getElem?_cons_zero, List.getElem?_cons_succ] at xp0 xp1
          have xq0 := (HQ.out).cell 0; have xq1 := (HQ.out).cell 1; have xqf := (HQ.out).free
          simp only [List.getElem?_cons_zero, List.getElem?_cons_succ] at xq0 xq1
          have xi0 := (HH.out.I).cell 0; have xi1 := (HH.out.I).cell 1; have xif := (HH.out.I).free
          simp only [List.getElem?_cons_zero, List.getElem?_cons_succ] at xi0 xi1
          have xo0 := (HH.out.O).cell 0; have xo1 := (HH.out.O).cell 1; have xof := (HH.out.O).free
          simp only [List.getElem?_cons_zero, List.getElem?_cons_succ] at xo0 xo1
          go_wp2_with fail
          by_cases a1 : above ⟨Lo - F, T - F⟩ i = true
          · refine ((abvC ⟨Lo - F, T - F⟩ i oP.n oP.d hio.n hio.d _).eq (by rw [a1])).mono ?_
            rintro e w12 ⟨rfl, hS⟩
            have HI12 := HH.out.step hS; have hP12 := HP.out.step hS; have hQ12 := HQ.out.step hS
            clear xp0 xp1 xpf
            clear xq0 xq1 xqf
            clear xi0 xi1 xif
            clear xo0 xo1 xof
            clear kF kT kL kH hS
            have xp0 := (hP12).cell 0; have xp1 := (hP12).cell 1; have xpf := (hP12).free
            simp only [List.getElem?_cons_zero, List.getElem?_cons_succ] at xp0 xp1
            have xq0 := (hQ12).cell 0; have xq1 := (hQ12).cell 1; have xqf := (hQ12).free
            simp only [List.getElem?_cons_zero, List.getElem?_cons_succ] at xq0 xq1
            have xi0 := (HI12.I).cell 0; have xi1 := (HI12.I).cell 1; have xif := (HI12.I).free
            simp only [List.getElem?_cons_zero, List.getElem?_cons_succ] at xi0 xi1
            have xo0 := (HI12.O).cell 0; have xo1 := (HI12.O).cell 1; have xof := (HI12.O).free
            simp only [List.getElem?_cons_zero, List.getElem?_cons_succ] at xo0 xo1
            have HI13 := Lib.hid (HI12.put d1 ⟨by omega, by omega, by omega, by omega, by omega⟩ ⟨Lo - F, T - F⟩)
            have hQ13 := Lib.hid ((hQ12.other (p := ⟨b0, 0, none⟩) (by simp; omega) (.int .i64 (⟨Lo - F, T - F⟩ : Fr).n)).other (p := ⟨b0, 1, none⟩) (by simp; omega) (.int .i64 (⟨Lo - F, T - F⟩ : Fr).d))
            clear HI12 hP12 hQ12
            go_wp2_with fail
            by_cases a2 : above o ⟨Hi - F, T - F⟩ = true
            · refine ((abvC o ⟨Hi - F, T - F⟩ hoo.n hoo.d oQ.n oQ.d _).eq (by rw [a2])).mono ?_
              rintro e w14 ⟨rfl, hS⟩
              have HI14 := HI13.out.step hS; have hQ14 := hQ13.out.step hS
              clear xp0 xp1 xpf
              clear xq0 xq1 xqf
              clear xi0 xi1 xif
              clear xo0 xo1 xof
              clear hS
              have xq0 := (hQ14).cell 0; have xq1 := (hQ14).cell 1; have xqf := (hQ14).free
              simp only [List.getElem?_cons_zero, List.getElem?_cons_succ] at xq0 xq1
              have xo0 := (HI14.O).cell 0; have xo1 := (HI14.O).cell 1; have xof := (HI14.O).free
              simp only [List.getElem?_cons_zero, List.getElem?_cons_succ] at xo0 xo1
              have HI15 := Lib.hid (HI14.put' d2 ⟨by omega, by omega, by omega, by omega, by omega⟩ ⟨Hi - F, T - F⟩)
              clear HI14 hQ14
              go_wp2
              go_roundw
              case rel => exact ⟨k + 1, by omega, by go_num, (⟨Lo - F, T - F⟩, ⟨Hi - F, T - F⟩), by rw [eS.out, if_pos a1, if_pos a2], by assumption, by assumption, HI15.out⟩
              case measure => simp [RowKit.intOf]; omega
            · have a2' : above o ⟨Hi - F, T - F⟩ = false := by simpa using a2
              refine ((abvC o ⟨Hi - F, T - F⟩ hoo.n hoo.d oQ.n oQ.d _).eq (by rw [a2'])).mono ?_
              rintro e w14 ⟨rfl, hS⟩
              have HI15 := Lib.hid (HI13.out.step hS)
              clear xp0 xp1 xpf
              clear xq0 xq1 xqf
              clear xi0 xi1 xif
              clear xo0 xo1 xof
              clear hS
              go_wp2
              go_roundw
              case rel => exact ⟨k + 1, by omega, by go_num, (⟨Lo - F, T - F⟩, o), by rw [eS.out, if_pos a1, if_neg a2], by assumption, by assumption, HI15.out⟩
              case measure => simp [RowKit.intOf]; omega
          · have a1' : above ⟨Lo - F, T - F⟩ i = false := by simpa using a1
            refine ((abvC ⟨Lo - F, T - F⟩ i oP.n oP.d hio.n hio.d _).eq (by rw [a1'])).mono ?_
            rintro e w12 ⟨rfl, hS⟩
            have HI12 := HH.out.step hS; have hQ12 := HQ.out.step hS
            clear xp0 xp1 xpf
            clear xq0 xq1 xqf
            clear xi0 xi1 xif
            clear xo0 xo1 xof
            clear kF kT kL kH hS
            have xq0 := (hQ12).cell 0; have xq1 := (hQ12).cell 1; have xqf := (hQ12).free
            simp only [List.getElem?_cons_zero, List.getElem?_cons_succ] at xq0 xq1
            have xo0 := (HI12.O).cell 0; have xo1 := (HI12.O).cell 1; have xof := (HI12.O).free
            simp only [List.getElem?_cons_zero, List.getElem?_cons_succ] at xo0 xo1
            have HI13 := Lib.hid HI12
            have hQ13 := Lib.hid hQ12
            clear HI12 hQ12
            go_wp2_with fail
            by_cases a2 : above o ⟨Hi - F, T - F⟩ = true
            · refine ((abvC o ⟨Hi - F, T - F⟩ hoo.n hoo.d oQ.n oQ.d _).eq (by rw [a2])).mono ?_
              rintro e w14 ⟨rfl, hS⟩
              have HI14 := HI13.out.step hS; have hQ14 := hQ13.out.step hS
              clear xq0 xq1 xqf
              clear xo0 xo1 xof
              clear hS
              have xq0 := (hQ14).cell 0; have xq1 := (hQ14).cell 1; have xqf := (hQ14).free
              simp only [List.getElem?_cons_zero, List.getElem?_cons_succ] at xq0 xq1
              have xo0 := (HI14.O).cell 0; have xo1 := (HI14.O).cell 1; have xof := (HI14.O).free
              simp only [List.getElem?_cons_zero, List.getElem?_cons_succ] at xo0 xo1
              have HI15 := Lib.hid (HI14.put' d2 ⟨by omega, by omega, by omega, by omega, by omega⟩ ⟨Hi - F, T - F⟩)
              clear HI14 hQ14
              go_wp2
              go_roundw
              case rel => exact ⟨k + 1, by omega, by go_num, (i, ⟨Hi - F, T - F⟩), by rw [eS.out, if_neg a1, if_pos a2], by assumption, by assumption, HI15.out⟩
              case measure => simp [RowKit.intOf]; omega
            · have a2' : above o ⟨Hi - F, T - F⟩ = false := by simpa using a2
              refine ((abvC o ⟨Hi - F, T - F⟩ hoo.n hoo.d oQ.n oQ.d _).eq (by rw [a2'])).mono ?_
              rintro e w14 ⟨rfl, hS⟩
              have HI15 := Lib.hid (HI13.out.step hS)
              clear xq0 xq1 xqf
              clear xo0 xo1 xof
              clear hS
              go_wp2
              go_roundw
              case rel => exact ⟨k + 1, by omega, by go_num, (i, o), by rw [eS.out, if_neg a1, if_neg a2], by assumption, by assumption, HI15.out⟩
              case measure => simp [RowKit.intOf]; omega
    · obtain rfl : k = 3 := by omega
      have eF := Lib.hid (hit_some ha hf ht hs)
      have xi0 := (HI.I).cell 0; have xi1 := (HI.I).cell 1; have xif := (HI.I).free
      simp only [List.getElem?_cons_zero, List.getElem?_cons_succ] at xi0 xi1
      have xo0 := (HI.O).cell 0; have xo1 := (HI.O).cell 1; have xof := (HI.O).free
      simp only [List.getElem?_cons_zero, List.getElem?_cons_succ] at xo0 xo1
      have HX := Lib.hid HI
      clear HI hs
      go_wp2_with fail
      refine (abvC i o hio.n hio.d hoo.n hoo.d _).mono ?_
      rintro e w7 ⟨rfl, hS⟩
      have hW := HX.out.W.trans (hS.mono HX.out.W.size)
      go_wp2
      rw [eF.out]
      exact bodyPost_ret (v := .bool (!above i o)) (by simp [results, Tryz.results47, go_sem]) rfl ⟨rfl, hW⟩
end Go.Proofs.YtbcjnckejkjfeaaGreat
