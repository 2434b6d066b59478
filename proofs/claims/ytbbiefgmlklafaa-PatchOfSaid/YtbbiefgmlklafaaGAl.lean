/- How far a point of small numbers is along a vector of small numbers; the sum of products: the walks. No condition. -/
import Derived.Test.YtbbiefgmlklafaaGIt
import Derived.Shelf.Abstract
import Derived.TacticsInMore
import Derived.BigFrameIn
namespace Go.Proofs.Ytbbiefgmlklafaa
set_option linter.unusedVariables false
set_option linter.unusedSimpArgs false
open Go.RowKit Go.NP
namespace GAl
theorem cf46 (args : Array Value) (w1 : World) : (callFunc 46 args).run Try.prog w1 = .ok (.enter 46 args) w1 := enters Try.func46 (by kernel_rfl) (by kernel_rfl) args w1
theorem cf74 (args : Array Value) (w1 : World) : (callFunc 74 args).run Try.prog w1 = .ok (.enter 74 args) w1 := enters Try.func74 (by kernel_rfl) (by kernel_rfl) args w1
theorem cf35 (args : Array Value) (w1 : World) : (callFunc 35 args).run Try.prog w1 = .ok (.enter 35 args) w1 := enters Try.func35 (by kernel_rfl) (by kernel_rfl) args w1
theorem cf36 (args : Array Value) (w1 : World) : (callFunc 36 args).run Try.prog w1 = .ok (.enter 36 args) w1 := enters Try.func36 (by kernel_rfl) (by kernel_rfl) args w1
theorem ll_zero : ([.int .u64 (w8 0).a, .int .u64 (w8 0).b, .int .u64 (w8 0).c, .int .u64 (w8 0).d, .int .u64 (w8 0).e, .int .u64 (w8 0).f, .int .u64 (w8 0).g, .int .u64 (w8 0).h] : List Value) = [.int .u64 0, .int .u64 0, .int .u64 0, .int .u64 0, .int .u64 0, .int .u64 0, .int .u64 0, .int .u64 0] := by rw [← z8_w8]; rfl
/-- The sum of what has come. -/
def sum (l : List GIt.Two) : Int := (l.map fun x => x.1.1 * x.1.2).sum
theorem sum_snoc (l : List GIt.Two) (x : GIt.Two) : sum (l ++ [x]) = sum l + x.1.1 * x.1.2 := by simp [sum]
theorem sum_le (l : List GIt.Two) : -(l.length : Int) * 1152921504606846976 ≤ sum l ∧ sum l ≤ (l.length : Int) * 1152921504606846976 := by
  induction l with
  | nil => simp [sum]
  | cons x r ih =>
    have h := GCr.c30_mul x.2.1 x.2.2
    have e : sum (x :: r) = x.1.1 * x.1.2 + sum r := by simp [sum]
    rw [e]; simp only [List.length_cons]; omega
set_option maxRecDepth 100000 in
set_option maxHeartbeats 400000 in
theorem alongC {a b c : Int} {p : Pt} (ha : GCr.c30 a) (hb : GCr.c30 b) (hc : GCr.c30 c) (hp : GCr.sP p) (w : World) :
    RetB Try.prog 45 #[.agg #[.int .u64 (w8 a).a, .int .u64 (w8 a).b, .int .u64 (w8 a).c, .int .u64 (w8 a).d, .int .u64 (w8 a).e, .int .u64 (w8 a).f, .int .u64 (w8 a).g, .int .u64 (w8 a).h, .int .u64 (w8 b).a, .int .u64 (w8 b).b, .int .u64 (w8 b).c, .int .u64 (w8 b).d, .int .u64 (w8 b).e, .int .u64 (w8 b).f, .int .u64 (w8 b).g, .int .u64 (w8 b).h, .int .u64 (w8 c).a, .int .u64 (w8 c).b, .int .u64 (w8 c).c, .int .u64 (w8 c).d, .int .u64 (w8 c).e, .int .u64 (w8 c).f, .int .u64 (w8 c).g, .int .u64 (w8 c).h], .agg #[.int .i64 p.x, .int .i64 p.y, .int .i64 p.z]] w (.tuple #[.agg #[.int .u64 (w8 (a * p.x + b * p.y + c * p.z)).a, .int .u64 (w8 (a * p.x + b * p.y + c * p.z)).b, .int .u64 (w8 (a * p.x + b * p.y + c * p.z)).c, .int .u64 (w8 (a * p.x + b * p.y + c * p.z)).d, .int .u64 (w8 (a * p.x + b * p.y + c * p.z)).e, .int .u64 (w8 (a * p.x + b * p.y + c * p.z)).f, .int .u64 (w8 (a * p.x + b * p.y + c * p.z)).g, .int .u64 (w8 (a * p.x + b * p.y + c * p.z)).h], .bool true]) := by
  have O1 := Lib.hid (fun w => GOf.ofV (GCr.c30_63 hp.x) (GCr.c30_63 hp.y) (GCr.c30_63 hp.z) w)
  unfold RetB
  refine (callsIn_wide (n := 3)).1 ?_
  refine callsIn_of_wp_marks Try.func45 rfl trivial ?_ rfl
  simp only [Try.ntmps45, List.size_toArray, List.length_cons, List.length_nil, Nat.reduceAdd, Nat.reduceSub, Array.replicate_succ, Array.replicate_zero, List.push_toArray, List.append_toArray, List.nil_append, List.cons_append]
  refine wpIn_wide.2 ?_
  go_wp2
  have hN : Box (((((w.alloc (.cells [.int .u64 (w8 a).a, .int .u64 (w8 a).b, .int .u64 (w8 a).c, .int .u64 (w8 a).d, .int .u64 (w8 a).e, .int .u64 (w8 a).f, .int .u64 (w8 a).g, .int .u64 (w8 a).h, .int .u64 (w8 b).a, .int .u64 (w8 b).b, .int .u64 (w8 b).c, .int .u64 (w8 b).d, .int .u64 (w8 b).e, .int .u64 (w8 b).f, .int .u64 (w8 b).g, .int .u64 (w8 b).h, .int .u64 (w8 c).a, .int .u64 (w8 c).b, .int .u64 (w8 c).c, .int .u64 (w8 c).d, .int .u64 (w8 c).e, .int .u64 (w8 c).f, .int .u64 (w8 c).g, .int .u64 (w8 c).h].toArray 64)).alloc (.cells #[.int .i64 p.x, .int .i64 p.y, .int .i64 p.z] 30)).alloc (.cells [.int .u64 0, .int .u64 0, .int .u64 0, .int .u64 0, .int .u64 0, .int .u64 0, .int .u64 0, .int .u64 0].toArray 37)).alloc (.cells [.bool false].toArray 4)).alloc (.cells [.int .u64 0, .int .u64 0, .int .u64 0, .int .u64 0, .int .u64 0, .int .u64 0, .int .u64 0, .int .u64 0].toArray 37)) w.heap.size [.int .u64 (w8 a).a, .int .u64 (w8 a).b, .int .u64 (w8 a).c, .int .u64 (w8 a).d, .int .u64 (w8 a).e, .int .u64 (w8 a).f, .int .u64 (w8 a).g, .int .u64 (w8 a).h, .int .u64 (w8 b).a, .int .u64 (w8 b).b, .int .u64 (w8 b).c, .int .u64 (w8 b).d, .int .u64 (w8 b).e, .int .u64 (w8 b).f, .int .u64 (w8 b).g, .int .u64 (w8 b).h, .int .u64 (w8 c).a, .int .u64 (w8 c).b, .int .u64 (w8 c).c, .int .u64 (w8 c).d, .int .u64 (w8 c).e, .int .u64 (w8 c).f, .int .u64 (w8 c).g, .int .u64 (w8 c).h] 64 := ((((Box.new rfl).alloc _).alloc _).alloc _).alloc _
  have hP : Box (((((w.alloc (.cells [.int .u64 (w8 a).a, .int .u64 (w8 a).b, .int .u64 (w8 a).c, .int .u64 (w8 a).d, .int .u64 (w8 a).e, .int .u64 (w8 a).f, .int .u64 (w8 a).g, .int .u64 (w8 a).h, .int .u64 (w8 b).a, .int .u64 (w8 b).b, .int .u64 (w8 b).c, .int .u64 (w8 b).d, .int .u64 (w8 b).e, .int .u64 (w8 b).f, .int .u64 (w8 b).g, .int .u64 (w8 b).h, .int .u64 (w8 c).a, .int .u64 (w8 c).b, .int .u64 (w8 c).c, .int .u64 (w8 c).d, .int .u64 (w8 c).e, .int .u64 (w8 c).f, .int .u64 (w8 c).g, .int .u64 (w8 c).h].toArray 64)).alloc (.cells #[.int .i64 p.x, .int .i64 p.y, .int .i64 p.z] 30)).alloc (.cells [.int .u64 0, .int .u64 0, .int .u64 0, .int .u64 0, .int .u64 0, .int .u64 0, .int .u64 0, .int .u64 0].toArray 37)).alloc (.cells [.bool false].toArray 4)).alloc (.cells [.int .u64 0, .int .u64 0, .int .u64 0, .int .u64 0, .int .u64 0, .int .u64 0, .int .u64 0, .int .u64 0].toArray 37)) (w.heap.size + 1) [.int .i64 p.x, .int .i64 p.y, .int .i64 p.z] 30 := (((Box.new (by simp)).alloc _).alloc _).alloc _
  have hR : Box (((((w.alloc (.cells [.int .u64 (w8 a).a, .int .u64 (w8 a).b, .int .u64 (w8 a).c, .int .u64 (w8 a).d, .int .u64 (w8 a).e, .int .u64 (w8 a).f, .int .u64 (w8 a).g, .int .u64 (w8 a).h, .int .u64 (w8 b).a, .int .u64 (w8 b).b, .int .u64 (w8 b).c, .int .u64 (w8 b).d, .int .u64 (w8 b).e, .int .u64 (w8 b).f, .int .u64 (w8 b).g, .int .u64 (w8 b).h, .int .u64 (w8 c).a, .int .u64 (w8 c).b, .int .u64 (w8 c).c, .int .u64 (w8 c).d, .int .u64 (w8 c).e, .int .u64 (w8 c).f, .int .u64 (w8 c).g, .int .u64 (w8 c).h].toArray 64)).alloc (.cells #[.int .i64 p.x, .int .i64 p.y, .int .i64 p.z] 30)).alloc (.cells [.int .u64 0, .int .u64 0, .int .u64 0, .int .u64 0, .int .u64 0, .int .u64 0, .int .u64 0, .int .u64 0].toArray 37)).alloc (.cells [.bool false].toArray 4)).alloc (.cells [.int .u64 0, .int .u64 0, .int .u64 0, .int .u64 0, .int .u64 0, .int .u64 0, .int .u64 0, .int .u64 0].toArray 37)) (w.heap.size + 1 + 1) [.int .u64 0, .int .u64 0, .int .u64 0, .int .u64 0, .int .u64 0, .int .u64 0, .int .u64 0, .int .u64 0] 37 := ((Box.new (by simp)).alloc _).alloc _
  have hK : Box (((((w.alloc (.cells [.int .u64 (w8 a).a, .int .u64 (w8 a).b, .int .u64 (w8 a).c, .int .u64 (w8 a).d, .int .u64 (w8 a).e, .int .u64 (w8 a).f, .int .u64 (w8 a).g, .int .u64 (w8 a).h, .int .u64 (w8 b).a, .int .u64 (w8 b).b, .int .u64 (w8 b).c, .int .u64 (w8 b).d, .int .u64 (w8 b).e, .int .u64 (w8 b).f, .int .u64 (w8 b).g, .int .u64 (w8 b).h, .int .u64 (w8 c).a, .int .u64 (w8 c).b, .int .u64 (w8 c).c, .int .u64 (w8 c).d, .int .u64 (w8 c).e, .int .u64 (w8 c).f, .int .u64 (w8 c).g, .int .u64 (w8 c).h].toArray 64)).alloc (.cells #[.int .i64 p.x, .int .i64 p.y, .int .i64 p.z] 30)).alloc (.cells [.int .u64 0, .int .u64 0, .int .u64 0, .int .u64 0, .int .u64 0, .int .u64 0, .int .u64 0, .int .u64 0].toArray 37)).alloc (.cells [.bool false].toArray 4)).alloc (.cells [.int .u64 0, .int .u64 0, .int .u64 0, .int .u64 0, .int .u64 0, .int .u64 0, .int .u64 0, .int .u64 0].toArray 37)) (w.heap.size + 1 + 1 + 1) [.bool false] 4 := (Box.new (by simp)).alloc _
  have hS : Box (((((w.alloc (.cells [.int .u64 (w8 a).a, .int .u64 (w8 a).b, .int .u64 (w8 a).c, .int .u64 (w8 a).d, .int .u64 (w8 a).e, .int .u64 (w8 a).f, .int .u64 (w8 a).g, .int .u64 (w8 a).h, .int .u64 (w8 b).a, .int .u64 (w8 b).b, .int .u64 (w8 b).c, .int .u64 (w8 b).d, .int .u64 (w8 b).e, .int .u64 (w8 b).f, .int .u64 (w8 b).g, .int .u64 (w8 b).h, .int .u64 (w8 c).a, .int .u64 (w8 c).b, .int .u64 (w8 c).c, .int .u64 (w8 c).d, .int .u64 (w8 c).e, .int .u64 (w8 c).f, .int .u64 (w8 c).g, .int .u64 (w8 c).h].toArray 64)).alloc (.cells #[.int .i64 p.x, .int .i64 p.y, .int .i64 p.z] 30)).alloc (.cells [.int .u64 0, .int .u64 0, .int .u64 0, .int .u64 0, .int .u64 0, .int .u64 0, .int .u64 0, .int .u64 0].toArray 37)).alloc (.cells [.bool false].toArray 4)).alloc (.cells [.int .u64 0, .int .u64 0, .int .u64 0, .int .u64 0, .int .u64 0, .int .u64 0, .int .u64 0, .int .u64 0].toArray 37)) (w.heap.size + 1 + 1 + 1 + 1) [.int .u64 0, .int .u64 0, .int .u64 0, .int .u64 0, .int .u64 0, .int .u64 0, .int .u64 0, .int .u64 0] 37 := Box.new (by simp)
  have hW : Below w.heap.size w (((((w.alloc (.cells [.int .u64 (w8 a).a, .int .u64 (w8 a).b, .int .u64 (w8 a).c, .int .u64 (w8 a).d, .int .u64 (w8 a).e, .int .u64 (w8 a).f, .int .u64 (w8 a).g, .int .u64 (w8 a).h, .int .u64 (w8 b).a, .int .u64 (w8 b).b, .int .u64 (w8 b).c, .int .u64 (w8 b).d, .int .u64 (w8 b).e, .int .u64 (w8 b).f, .int .u64 (w8 b).g, .int .u64 (w8 b).h, .int .u64 (w8 c).a, .int .u64 (w8 c).b, .int .u64 (w8 c).c, .int .u64 (w8 c).d, .int .u64 (w8 c).e, .int .u64 (w8 c).f, .int .u64 (w8 c).g, .int .u64 (w8 c).h].toArray 64)).alloc (.cells #[.int .i64 p.x, .int .i64 p.y, .int .i64 p.z] 30)).alloc (.cells [.int .u64 0, .int .u64 0, .int .u64 0, .int .u64 0, .int .u64 0, .int .u64 0, .int .u64 0, .int .u64 0].toArray 37)).alloc (.cells [.bool false].toArray 4)).alloc (.cells [.int .u64 0, .int .u64 0, .int .u64 0, .int .u64 0, .int .u64 0, .int .u64 0, .int .u64 0, .int .u64 0].toArray 37)) := ((((((Below.refl _ _).alloc (Nat.le_refl _) _).alloc (by simp) _).alloc (by simp; omega) _).alloc (by simp; omega) _).alloc (by simp; omega) _)
  revert hN hP hR hK hS hW
  generalize (((((w.alloc (.cells [.int .u64 (w8 a).a, .int .u64 (w8 a).b, .int .u64 (w8 a).c, .int .u64 (w8 a).d, .int .u64 (w8 a).e, .int .u64 (w8 a).f, .int .u64 (w8 a).g, .int .u64 (w8 a).h, .int .u64 (w8 b).a, .int .u64 (w8 b).b, .int .u64 (w8 b).c, .int .u64 (w8 b).d, .int .u64 (w8 b).e, .int .u64 (w8 b).f, .int .u64 (w8 b).g, .int .u64 (w8 b).h, .int .u64 (w8 c).a, .int .u64 (w8 c).b, .int .u64 (w8 c).c, .int .u64 (w8 c).d, .int .u64 (w8 c).e, .int .u64 (w8 c).f, .int .u64 (w8 c).g, .int .u64 (w8 c).h].toArray 64)).alloc (.cells #[.int .i64 p.x, .int .i64 p.y, .int .i64 p.z] 30)).alloc (.cells [.int .u64 0, .int .u64 0, .int .u64 0, .int .u64 0, .int .u64 0, .int .u64 0, .int .u64 0, .int .u64 0].toArray 37)).alloc (.cells [.bool false].toArray 4)).alloc (.cells [.int .u64 0, .int .u64 0, .int .u64 0, .int .u64 0, .int .u64 0, .int .u64 0, .int .u64 0, .int .u64 0].toArray 37)) = w2
  intro hN hP hR hK hS hW
  have m0 := hN.lt; have m1 := hS.lt
  refine wp_region_ph [(3, .free [])] (by kernel_rfl) (by kernel_rfl) ?_
  refine Ph.belowd ?_
  simp only [List.drop_succ_cons, List.drop_zero, List.take_succ_cons, List.take_zero, Nat.reduceSub, Nat.sub_zero]
  refine SeqO.row (l := [.int .u64 (w8 a).a, .int .u64 (w8 a).b, .int .u64 (w8 a).c, .int .u64 (w8 a).d, .int .u64 (w8 a).e, .int .u64 (w8 a).f, .int .u64 (w8 a).g, .int .u64 (w8 a).h, .int .u64 (w8 b).a, .int .u64 (w8 b).b, .int .u64 (w8 b).c, .int .u64 (w8 b).d, .int .u64 (w8 b).e, .int .u64 (w8 b).f, .int .u64 (w8 b).g, .int .u64 (w8 b).h, .int .u64 (w8 c).a, .int .u64 (w8 c).b, .int .u64 (w8 c).c, .int .u64 (w8 c).d, .int .u64 (w8 c).e, .int .u64 (w8 c).f, .int .u64 (w8 c).g, .int .u64 (w8 c).h]) (by rfl) (by rfl) hN Try.underlying64 (by rfl) (by kernel_rfl) (by rfl) (by rfl) ?_
  simp only [Act.put, List.setIfInBounds_toArray, List.set_cons_zero, List.set_cons_succ]
  refine SeqO.row (l := [.int .i64 p.x, .int .i64 p.y, .int .i64 p.z]) (by rfl) (by rfl) hP Try.underlying30 (by rfl) (by kernel_rfl) (by rfl) (by rfl) ?_
  simp only [Act.put, List.setIfInBounds_toArray, List.set_cons_zero, List.set_cons_succ]
  refine SeqO.callv (by rfl) (by rfl) (by rfl) cf46 (by simp [Act.eval]) (fun w1 hS => O1.out w1) ?_
  simp only [Act.put, List.setIfInBounds_toArray, List.set_cons_zero, List.set_cons_succ]
  refine SeqO.nil0 fun w3 hS3 => ?_
  have hR := hR.step hS3; have hK := hK.step hS3; have hS := hS.step hS3; have hW := hW.trans (hS3.mono hW.size)
  have m3 := hS.lt
  clear hS3 hN hP m0 m1
  refine Ph.last ?_
  simp only [List.drop_succ_cons, List.drop_zero, List.take_succ_cons, List.take_zero, Nat.reduceSub, Nat.sub_zero]
  with_reducible refine wpL_call (ca := ?_) (args := ?_) ?_ ?_ cf74 ?_ ?_
  rotate_left 2
  · kernel_rfl
  · rfl
  · simp [Act.eval] <;> rfl
  refine (GNum.numC a b c p.x p.y p.z _).mono ?_
  rintro e w4 ⟨rfl, rfl⟩
  refine ⟨_, rfl, ?_⟩
  refine wpList_nil ?_
  go_wp2
  conv => arg 4; simp only [Act.put, List.setIfInBounds_toArray, List.set_cons_zero, List.set_cons_succ]
  have hb1 : Box ((w3.alloc (.cells [.int .u64 (w8 a).a, .int .u64 (w8 a).b, .int .u64 (w8 a).c, .int .u64 (w8 a).d, .int .u64 (w8 a).e, .int .u64 (w8 a).f, .int .u64 (w8 a).g, .int .u64 (w8 a).h, .int .u64 (w8 b).a, .int .u64 (w8 b).b, .int .u64 (w8 b).c, .int .u64 (w8 b).d, .int .u64 (w8 b).e, .int .u64 (w8 b).f, .int .u64 (w8 b).g, .int .u64 (w8 b).h, .int .u64 (w8 c).a, .int .u64 (w8 c).b, .int .u64 (w8 c).c, .int .u64 (w8 c).d, .int .u64 (w8 c).e, .int .u64 (w8 c).f, .int .u64 (w8 c).g, .int .u64 (w8 c).h].toArray 64)).alloc (.cells [.int .u64 (w8 p.x).a, .int .u64 (w8 p.x).b, .int .u64 (w8 p.x).c, .int .u64 (w8 p.x).d, .int .u64 (w8 p.x).e, .int .u64 (w8 p.x).f, .int .u64 (w8 p.x).g, .int .u64 (w8 p.x).h, .int .u64 (w8 p.y).a, .int .u64 (w8 p.y).b, .int .u64 (w8 p.y).c, .int .u64 (w8 p.y).d, .int .u64 (w8 p.y).e, .int .u64 (w8 p.y).f, .int .u64 (w8 p.y).g, .int .u64 (w8 p.y).h, .int .u64 (w8 p.z).a, .int .u64 (w8 p.z).b, .int .u64 (w8 p.z).c, .int .u64 (w8 p.z).d, .int .u64 (w8 p.z).e, .int .u64 (w8 p.z).f, .int .u64 (w8 p.z).g, .int .u64 (w8 p.z).h].toArray 64)) w3.heap.size [.int .u64 (w8 a).a, .int .u64 (w8 a).b, .int .u64 (w8 a).c, .int .u64 (w8 a).d, .int .u64 (w8 a).e, .int .u64 (w8 a).f, .int .u64 (w8 a).g, .int .u64 (w8 a).h, .int .u64 (w8 b).a, .int .u64 (w8 b).b, .int .u64 (w8 b).c, .int .u64 (w8 b).d, .int .u64 (w8 b).e, .int .u64 (w8 b).f, .int .u64 (w8 b).g, .int .u64 (w8 b).h, .int .u64 (w8 c).a, .int .u64 (w8 c).b, .int .u64 (w8 c).c, .int .u64 (w8 c).d, .int .u64 (w8 c).e, .int .u64 (w8 c).f, .int .u64 (w8 c).g, .int .u64 (w8 c).h] 64 := (Box.new rfl).alloc _
  have hb2 : Box ((w3.alloc (.cells [.int .u64 (w8 a).a, .int .u64 (w8 a).b, .int .u64 (w8 a).c, .int .u64 (w8 a).d, .int .u64 (w8 a).e, .int .u64 (w8 a).f, .int .u64 (w8 a).g, .int .u64 (w8 a).h, .int .u64 (w8 b).a, .int .u64 (w8 b).b, .int .u64 (w8 b).c, .int .u64 (w8 b).d, .int .u64 (w8 b).e, .int .u64 (w8 b).f, .int .u64 (w8 b).g, .int .u64 (w8 b).h, .int .u64 (w8 c).a, .int .u64 (w8 c).b, .int .u64 (w8 c).c, .int .u64 (w8 c).d, .int .u64 (w8 c).e, .int .u64 (w8 c).f, .int .u64 (w8 c).g, .int .u64 (w8 c).h].toArray 64)).alloc (.cells [.int .u64 (w8 p.x).a, .int .u64 (w8 p.x).b, .int .u64 (w8 p.x).c, .int .u64 (w8 p.x).d, .int .u64 (w8 p.x).e, .int .u64 (w8 p.x).f, .int .u64 (w8 p.x).g, .int .u64 (w8 p.x).h, .int .u64 (w8 p.y).a, .int .u64 (w8 p.y).b, .int .u64 (w8 p.y).c, .int .u64 (w8 p.y).d, .int .u64 (w8 p.y).e, .int .u64 (w8 p.y).f, .int .u64 (w8 p.y).g, .int .u64 (w8 p.y).h, .int .u64 (w8 p.z).a, .int .u64 (w8 p.z).b, .int .u64 (w8 p.z).c, .int .u64 (w8 p.z).d, .int .u64 (w8 p.z).e, .int .u64 (w8 p.z).f, .int .u64 (w8 p.z).g, .int .u64 (w8 p.z).h].toArray 64)) (w3.heap.size + 1) [.int .u64 (w8 p.x).a, .int .u64 (w8 p.x).b, .int .u64 (w8 p.x).c, .int .u64 (w8 p.x).d, .int .u64 (w8 p.x).e, .int .u64 (w8 p.x).f, .int .u64 (w8 p.x).g, .int .u64 (w8 p.x).h, .int .u64 (w8 p.y).a, .int .u64 (w8 p.y).b, .int .u64 (w8 p.y).c, .int .u64 (w8 p.y).d, .int .u64 (w8 p.y).e, .int .u64 (w8 p.y).f, .int .u64 (w8 p.y).g, .int .u64 (w8 p.y).h, .int .u64 (w8 p.z).a, .int .u64 (w8 p.z).b, .int .u64 (w8 p.z).c, .int .u64 (w8 p.z).d, .int .u64 (w8 p.z).e, .int .u64 (w8 p.z).f, .int .u64 (w8 p.z).g, .int .u64 (w8 p.z).h] 64 := Box.new (by simp)
  have hR := (hR.alloc (.cells [.int .u64 (w8 a).a, .int .u64 (w8 a).b, .int .u64 (w8 a).c, .int .u64 (w8 a).d, .int .u64 (w8 a).e, .int .u64 (w8 a).f, .int .u64 (w8 a).g, .int .u64 (w8 a).h, .int .u64 (w8 b).a, .int .u64 (w8 b).b, .int .u64 (w8 b).c, .int .u64 (w8 b).d, .int .u64 (w8 b).e, .int .u64 (w8 b).f, .int .u64 (w8 b).g, .int .u64 (w8 b).h, .int .u64 (w8 c).a, .int .u64 (w8 c).b, .int .u64 (w8 c).c, .int .u64 (w8 c).d, .int .u64 (w8 c).e, .int .u64 (w8 c).f, .int .u64 (w8 c).g, .int .u64 (w8 c).h].toArray 64)).alloc (.cells [.int .u64 (w8 p.x).a, .int .u64 (w8 p.x).b, .int .u64 (w8 p.x).c, .int .u64 (w8 p.x).d, .int .u64 (w8 p.x).e, .int .u64 (w8 p.x).f, .int .u64 (w8 p.x).g, .int .u64 (w8 p.x).h, .int .u64 (w8 p.y).a, .int .u64 (w8 p.y).b, .int .u64 (w8 p.y).c, .int .u64 (w8 p.y).d, .int .u64 (w8 p.y).e, .int .u64 (w8 p.y).f, .int .u64 (w8 p.y).g, .int .u64 (w8 p.y).h, .int .u64 (w8 p.z).a, .int .u64 (w8 p.z).b, .int .u64 (w8 p.z).c, .int .u64 (w8 p.z).d, .int .u64 (w8 p.z).e, .int .u64 (w8 p.z).f, .int .u64 (w8 p.z).g, .int .u64 (w8 p.z).h].toArray 64)
  have hK := (hK.alloc (.cells [.int .u64 (w8 a).a, .int .u64 (w8 a).b, .int .u64 (w8 a).c, .int .u64 (w8 a).d, .int .u64 (w8 a).e, .int .u64 (w8 a).f, .int .u64 (w8 a).g, .int .u64 (w8 a).h, .int .u64 (w8 b).a, .int .u64 (w8 b).b, .int .u64 (w8 b).c, .int .u64 (w8 b).d, .int .u64 (w8 b).e, .int .u64 (w8 b).f, .int .u64 (w8 b).g, .int .u64 (w8 b).h, .int .u64 (w8 c).a, .int .u64 (w8 c).b, .int .u64 (w8 c).c, .int .u64 (w8 c).d, .int .u64 (w8 c).e, .int .u64 (w8 c).f, .int .u64 (w8 c).g, .int .u64 (w8 c).h].toArray 64)).alloc (.cells [.int .u64 (w8 p.x).a, .int .u64 (w8 p.x).b, .int .u64 (w8 p.x).c, .int .u64 (w8 p.x).d, .int .u64 (w8 p.x).e, .int .u64 (w8 p.x).f, .int .u64 (w8 p.x).g, .int .u64 (w8 p.x).h, .int .u64 (w8 p.y).a, .int .u64 (w8 p.y).b, .int .u64 (w8 p.y).c, .int .u64 (w8 p.y).d, .int .u64 (w8 p.y).e, .int .u64 (w8 p.y).f, .int .u64 (w8 p.y).g, .int .u64 (w8 p.y).h, .int .u64 (w8 p.z).a, .int .u64 (w8 p.z).b, .int .u64 (w8 p.z).c, .int .u64 (w8 p.z).d, .int .u64 (w8 p.z).e, .int .u64 (w8 p.z).f, .int .u64 (w8 p.z).g, .int .u64 (w8 p.z).h].toArray 64)
  have hS := (hS.alloc (.cells [.int .u64 (w8 a).a, .int .u64 (w8 a).b, .int .u64 (w8 a).c, .int .u64 (w8 a).d, .int .u64 (w8 a).e, .int .u64 (w8 a).f, .int .u64 (w8 a).g, .int .u64 (w8 a).h, .int .u64 (w8 b).a, .int .u64 (w8 b).b, .int .u64 (w8 b).c, .int .u64 (w8 b).d, .int .u64 (w8 b).e, .int .u64 (w8 b).f, .int .u64 (w8 b).g, .int .u64 (w8 b).h, .int .u64 (w8 c).a, .int .u64 (w8 c).b, .int .u64 (w8 c).c, .int .u64 (w8 c).d, .int .u64 (w8 c).e, .int .u64 (w8 c).f, .int .u64 (w8 c).g, .int .u64 (w8 c).h].toArray 64)).alloc (.cells [.int .u64 (w8 p.x).a, .int .u64 (w8 p.x).b, .int .u64 (w8 p.x).c, .int .u64 (w8 p.x).d, .int .u64 (w8 p.x).e, .int .u64 (w8 p.x).f, .int .u64 (w8 p.x).g, .int .u64 (w8 p.x).h, .int .u64 (w8 p.y).a, .int .u64 (w8 p.y).b, .int .u64 (w8 p.y).c, .int .u64 (w8 p.y).d, .int .u64 (w8 p.y).e, .int .u64 (w8 p.y).f, .int .u64 (w8 p.y).g, .int .u64 (w8 p.y).h, .int .u64 (w8 p.z).a, .int .u64 (w8 p.z).b, .int .u64 (w8 p.z).c, .int .u64 (w8 p.z).d, .int .u64 (w8 p.z).e, .int .u64 (w8 p.z).f, .int .u64 (w8 p.z).g, .int .u64 (w8 p.z).h].toArray 64)
  have hW := (hW.alloc hW.size (.cells [.int .u64 (w8 a).a, .int .u64 (w8 a).b, .int .u64 (w8 a).c, .int .u64 (w8 a).d, .int .u64 (w8 a).e, .int .u64 (w8 a).f, .int .u64 (w8 a).g, .int .u64 (w8 a).h, .int .u64 (w8 b).a, .int .u64 (w8 b).b, .int .u64 (w8 b).c, .int .u64 (w8 b).d, .int .u64 (w8 b).e, .int .u64 (w8 b).f, .int .u64 (w8 b).g, .int .u64 (w8 b).h, .int .u64 (w8 c).a, .int .u64 (w8 c).b, .int .u64 (w8 c).c, .int .u64 (w8 c).d, .int .u64 (w8 c).e, .int .u64 (w8 c).f, .int .u64 (w8 c).g, .int .u64 (w8 c).h].toArray 64)).alloc (by have := hW.size; simp; omega) (.cells [.int .u64 (w8 p.x).a, .int .u64 (w8 p.x).b, .int .u64 (w8 p.x).c, .int .u64 (w8 p.x).d, .int .u64 (w8 p.x).e, .int .u64 (w8 p.x).f, .int .u64 (w8 p.x).g, .int .u64 (w8 p.x).h, .int .u64 (w8 p.y).a, .int .u64 (w8 p.y).b, .int .u64 (w8 p.y).c, .int .u64 (w8 p.y).d, .int .u64 (w8 p.y).e, .int .u64 (w8 p.y).f, .int .u64 (w8 p.y).g, .int .u64 (w8 p.y).h, .int .u64 (w8 p.z).a, .int .u64 (w8 p.z).b, .int .u64 (w8 p.z).c, .int .u64 (w8 p.z).d, .int .u64 (w8 p.z).e, .int .u64 (w8 p.z).f, .int .u64 (w8 p.z).g, .int .u64 (w8 p.z).h].toArray 64)
  revert hb1 hb2 hR hK hS hW
  generalize ((w3.alloc (.cells [.int .u64 (w8 a).a, .int .u64 (w8 a).b, .int .u64 (w8 a).c, .int .u64 (w8 a).d, .int .u64 (w8 a).e, .int .u64 (w8 a).f, .int .u64 (w8 a).g, .int .u64 (w8 a).h, .int .u64 (w8 b).a, .int .u64 (w8 b).b, .int .u64 (w8 b).c, .int .u64 (w8 b).d, .int .u64 (w8 b).e, .int .u64 (w8 b).f, .int .u64 (w8 b).g, .int .u64 (w8 b).h, .int .u64 (w8 c).a, .int .u64 (w8 c).b, .int .u64 (w8 c).c, .int .u64 (w8 c).d, .int .u64 (w8 c).e, .int .u64 (w8 c).f, .int .u64 (w8 c).g, .int .u64 (w8 c).h].toArray 64)).alloc (.cells [.int .u64 (w8 p.x).a, .int .u64 (w8 p.x).b, .int .u64 (w8 p.x).c, .int .u64 (w8 p.x).d, .int .u64 (w8 p.x).e, .int .u64 (w8 p.x).f, .int .u64 (w8 p.x).g, .int .u64 (w8 p.x).h, .int .u64 (w8 p.y).a, .int .u64 (w8 p.y).b, .int .u64 (w8 p.y).c, .int .u64 (w8 p.y).d, .int .u64 (w8 p.y).e, .int .u64 (w8 p.y).f, .int .u64 (w8 p.y).g, .int .u64 (w8 p.y).h, .int .u64 (w8 p.z).a, .int .u64 (w8 p.z).b, .int .u64 (w8 p.z).c, .int .u64 (w8 p.z).d, .int .u64 (w8 p.z).e, .int .u64 (w8 p.z).f, .int .u64 (w8 p.z).g, .int .u64 (w8 p.z).h].toArray 64)) = W0
  generalize w3.heap.size = b1 at *
  intro hb1 hb2 hR hK hS hW
  have l1 := hb1.lt; have l2 := hb2.lt; have lS := hS.lt
  generalize Value.agg #[.int .u64 (w8 a).a, .int .u64 (w8 a).b, .int .u64 (w8 a).c, .int .u64 (w8 a).d, .int .u64 (w8 a).e, .int .u64 (w8 a).f, .int .u64 (w8 a).g, .int .u64 (w8 a).h, .int .u64 (w8 b).a, .int .u64 (w8 b).b, .int .u64 (w8 b).c, .int .u64 (w8 b).d, .int .u64 (w8 b).e, .int .u64 (w8 b).f, .int .u64 (w8 b).g, .int .u64 (w8 b).h, .int .u64 (w8 c).a, .int .u64 (w8 c).b, .int .u64 (w8 c).c, .int .u64 (w8 c).d, .int .u64 (w8 c).e, .int .u64 (w8 c).f, .int .u64 (w8 c).g, .int .u64 (w8 c).h] = vN
  generalize Value.agg #[.int .u64 (w8 p.x).a, .int .u64 (w8 p.x).b, .int .u64 (w8 p.x).c, .int .u64 (w8 p.x).d, .int .u64 (w8 p.x).e, .int .u64 (w8 p.x).f, .int .u64 (w8 p.x).g, .int .u64 (w8 p.x).h, .int .u64 (w8 p.y).a, .int .u64 (w8 p.y).b, .int .u64 (w8 p.y).c, .int .u64 (w8 p.y).d, .int .u64 (w8 p.y).e, .int .u64 (w8 p.y).f, .int .u64 (w8 p.y).g, .int .u64 (w8 p.y).h, .int .u64 (w8 p.z).a, .int .u64 (w8 p.z).b, .int .u64 (w8 p.z).c, .int .u64 (w8 p.z).d, .int .u64 (w8 p.z).e, .int .u64 (w8 p.z).f, .int .u64 (w8 p.z).g, .int .u64 (w8 p.z).h] = vQ
  generalize Value.agg #[.int .i64 p.x, .int .i64 p.y, .int .i64 p.z] = vP
  refine (wpIn_wide (n := 3)).1 ?_
  refine wpIn_rangeFunc_ownH rfl (by decide : 1 ≤ 3) (gf := 89) (lb := #[.pointer (some ⟨b1, 0, none⟩), .pointer (some ⟨b1 + 1, 0, none⟩)]) rfl trivial (enters_of Try.func89 (by kernel_rfl) rfl)
    (GIt.num1S 2 _ _ (⟨(a, p.x), ha, hp.x⟩ : GIt.Two) (⟨(b, p.y), hb, hp.y⟩ : GIt.Two) (⟨(c, p.z), hc, hp.z⟩ : GIt.Two) W0 hb1 hb2) (fun h k => h.trans k) (GIt.Kp.put l1 l2) (Below.refl _ _) (fun _ => rfl)
    (fun pre W => ((Box W (w.heap.size + 1 + 1 + 1 + 1) [.int .u64 (w8 (sum pre)).a, .int .u64 (w8 (sum pre)).b, .int .u64 (w8 (sum pre)).c, .int .u64 (w8 (sum pre)).d, .int .u64 (w8 (sum pre)).e, .int .u64 (w8 (sum pre)).f, .int .u64 (w8 (sum pre)).g, .int .u64 (w8 (sum pre)).h] 37 ∧ Box W (w.heap.size + 1 + 1) [.int .u64 0, .int .u64 0, .int .u64 0, .int .u64 0, .int .u64 0, .int .u64 0, .int .u64 0, .int .u64 0] 37) ∧ Box W (w.heap.size + 1 + 1 + 1) [.bool false] 4) ∧ Below w.heap.size w W ∧ W0.heap.size ≤ W.heap.size)
    (fun _ _ _ => False)
    (OwnFrom.and (OwnFrom.and (OwnFrom.and (Own.from (box_own _ _ _) _) (Own.from (box_own _ _ _) _)) (Own.from (box_own _ _ _) _)) (OwnFrom.and (ownFrom_below (Nat.le_refl _) (by omega)) (fun s X Y row hs hg hr => Nat.le_trans hs hg.size)))
    (fun _ _ _ _ _ hs _ _ => hs)
    ⟨⟨⟨hS.cast (by rw [show sum [] = 0 from rfl, ll_zero]), hR⟩, hK⟩, hW, Nat.le_refl _⟩
    (fun x a' W => ∃ B7 B8, Box W B7 [.int .u64 (w8 x.1.1).a, .int .u64 (w8 x.1.1).b, .int .u64 (w8 x.1.1).c, .int .u64 (w8 x.1.1).d, .int .u64 (w8 x.1.1).e, .int .u64 (w8 x.1.1).f, .int .u64 (w8 x.1.1).g, .int .u64 (w8 x.1.1).h] 37 ∧ Box W B8 [.int .u64 (w8 x.1.2).a, .int .u64 (w8 x.1.2).b, .int .u64 (w8 x.1.2).c, .int .u64 (w8 x.1.2).d, .int .u64 (w8 x.1.2).e, .int .u64 (w8 x.1.2).f, .int .u64 (w8 x.1.2).g, .int .u64 (w8 x.1.2).h] 37 ∧ a' = { tmps := #[vN, vP, .pointer (some ⟨w.heap.size, 0, none⟩), .pointer (some ⟨w.heap.size + 1, 0, none⟩), .pointer (some ⟨w.heap.size + 1 + 1, 0, none⟩), .pointer (some ⟨w.heap.size + 1 + 1 + 1, 0, none⟩), .pointer (some ⟨w.heap.size + 1 + 1 + 1 + 1, 0, none⟩), .pointer (some ⟨B7, 0, none⟩), .pointer (some ⟨B8, 0, none⟩), undef, undef, vN, vP, vQ, .func (.func 89) #[] #[.pointer (some ⟨b1, 0, none⟩), .pointer (some ⟨b1 + 1, 0, none⟩)], .agg #[.int .u64 (w8 x.1.1).a, .int .u64 (w8 x.1.1).b, .int .u64 (w8 x.1.1).c, .int .u64 (w8 x.1.1).d, .int .u64 (w8 x.1.1).e, .int .u64 (w8 x.1.1).f, .int .u64 (w8 x.1.1).g, .int .u64 (w8 x.1.1).h], .agg #[.int .u64 (w8 x.1.2).a, .int .u64 (w8 x.1.2).b, .int .u64 (w8 x.1.2).c, .int .u64 (w8 x.1.2).d, .int .u64 (w8 x.1.2).e, .int .u64 (w8 x.1.2).f, .int .u64 (w8 x.1.2).g, .int .u64 (w8 x.1.2).h], undef, undef, undef, undef, undef, undef, undef, undef, undef, undef, undef, undef, undef, undef, undef, undef, undef, undef, undef], defers := [] })
    (fun x a' _ X Y row hs hg hr => by
      obtain ⟨B7, B8, h1, h2, h3⟩ := hs
      exact ⟨B7, B8, box_own B7 37 (fun (_ : Unit) => [.int .u64 (w8 x.1.1).a, .int .u64 (w8 x.1.1).b, .int .u64 (w8 x.1.1).c, .int .u64 (w8 x.1.1).d, .int .u64 (w8 x.1.1).e, .int .u64 (w8 x.1.1).f, .int .u64 (w8 x.1.1).g, .int .u64 (w8 x.1.1).h]) () X Y row h1 hg (fun r e => (hr r e).2), box_own B8 37 (fun (_ : Unit) => [.int .u64 (w8 x.1.2).a, .int .u64 (w8 x.1.2).b, .int .u64 (w8 x.1.2).c, .int .u64 (w8 x.1.2).d, .int .u64 (w8 x.1.2).e, .int .u64 (w8 x.1.2).f, .int .u64 (w8 x.1.2).g, .int .u64 (w8 x.1.2).h]) () X Y row h2 hg (fun r e => (hr r e).2), h3⟩)
    ?assign ?body ?done ?stop
  case assign =>
    rintro l pre x W K ⟨⟨⟨hS, hR⟩, hK⟩, hW, hz⟩ hC
    conv => arg 6; simp [GIt.encs]
    gi_step
    gi_step
    gi_step
    refine wpI_val (v := .pointer (some ⟨W.heap.size, 0, none⟩)) (w' := W.alloc (.cells [.int .u64 0, .int .u64 0, .int .u64 0, .int .u64 0, .int .u64 0, .int .u64 0, .int .u64 0, .int .u64 0].toArray 37)) (fw_round l) (by kernel_rfl) (by kernel_rfl) (by go_simp) ?_
    conv => arg 7; simp only [Act.put, List.setIfInBounds_toArray, List.set_cons_zero, List.set_cons_succ]
    refine wpI_store (cs := [.int .u64 (w8 x.1.1).a, .int .u64 (w8 x.1.1).b, .int .u64 (w8 x.1.1).c, .int .u64 (w8 x.1.1).d, .int .u64 (w8 x.1.1).e, .int .u64 (w8 x.1.1).f, .int .u64 (w8 x.1.1).g, .int .u64 (w8 x.1.1).h]) (fw_round l) (by rfl) (by rfl) (by rfl) (Box.new rfl) (by kernel_rfl) (by rfl) (by simp [Value.oneCell']) (by kernel_rfl) ?_
    conv => arg 7; simp only [Act.put, List.setIfInBounds_toArray, List.set_cons_zero, List.set_cons_succ]
    rw [alloc_setRow]
    refine wpListIn_nil ?_
    gi_step
    gi_step
    gi_step
    refine wpI_val (v := .pointer (some ⟨(W.alloc (.cells [.int .u64 (w8 x.1.1).a, .int .u64 (w8 x.1.1).b, .int .u64 (w8 x.1.1).c, .int .u64 (w8 x.1.1).d, .int .u64 (w8 x.1.1).e, .int .u64 (w8 x.1.1).f, .int .u64 (w8 x.1.1).g, .int .u64 (w8 x.1.1).h].toArray 37)).heap.size, 0, none⟩)) (w' := (W.alloc (.cells [.int .u64 (w8 x.1.1).a, .int .u64 (w8 x.1.1).b, .int .u64 (w8 x.1.1).c, .int .u64 (w8 x.1.1).d, .int .u64 (w8 x.1.1).e, .int .u64 (w8 x.1.1).f, .int .u64 (w8 x.1.1).g, .int .u64 (w8 x.1.1).h].toArray 37)).alloc (.cells [.int .u64 0, .int .u64 0, .int .u64 0, .int .u64 0, .int .u64 0, .int .u64 0, .int .u64 0, .int .u64 0].toArray 37)) (fw_round l) (by kernel_rfl) (by kernel_rfl) (by go_simp) ?_
    conv => arg 7; simp only [Act.put, List.setIfInBounds_toArray, List.set_cons_zero, List.set_cons_succ]
    refine wpI_store (cs := [.int .u64 (w8 x.1.2).a, .int .u64 (w8 x.1.2).b, .int .u64 (w8 x.1.2).c, .int .u64 (w8 x.1.2).d, .int .u64 (w8 x.1.2).e, .int .u64 (w8 x.1.2).f, .int .u64 (w8 x.1.2).g, .int .u64 (w8 x.1.2).h]) (fw_round l) (by rfl) (by rfl) (by rfl) (Box.new rfl) (by kernel_rfl) (by rfl) (by simp [Value.oneCell']) (by kernel_rfl) ?_
    conv => arg 7; simp only [Act.put, List.setIfInBounds_toArray, List.set_cons_zero, List.set_cons_succ]
    rw [alloc_setRow]
    refine wpListIn_nil ?_
    refine hC _ _ (((KeepsOthers.alloc _ _).trans (KeepsOthers.alloc _ _)).from _) (GIt.Kp.below (((Below.refl _ W).alloc (Nat.le_refl _) _).alloc (by simp) _) (by omega) (by omega)) ⟨⟨⟨(hS.alloc _).alloc _, (hR.alloc _).alloc _⟩, (hK.alloc _).alloc _⟩, (hW.alloc hW.size _).alloc (by have := hW.size; simp; omega) _, by simp; omega⟩ ⟨W.heap.size, W.heap.size + 1, (Box.new rfl).alloc _, Box.new (by simp), by simp⟩
  case body =>
    rintro l pre x a' W hl ⟨rr, hrr⟩ ⟨⟨⟨hS, hR⟩, hK⟩, hW, hz⟩ ⟨B7, B8, h7, h8, rfl⟩ hlt
    have hf1 := GCr.c30_half x.2.1
    have hf2 := GCr.c30_half x.2.2
    have hsm := sum_le pre
    have hsn := sum_le (pre ++ [x])
    rw [sum_snoc] at hsn
    simp only [List.length_append, List.length_cons, List.length_nil] at hsn
    have hpr := GCr.c30_mul x.2.1 x.2.2
    have e1 : fits (sum pre) := WidB.half_fits (by unfold WidB.half; omega)
    have e2 : fits (x.1.1 * x.1.2) := WidB.half_fits (by unfold WidB.half; omega)
    have e3 : fits (sum pre + x.1.1 * x.1.2) := WidB.half_fits (by unfold WidB.half; omega)
    clear hsm hsn hpr
    iterate 4 gi_step
    refine wpI_load (l := [.int .u64 (w8 x.1.1).a, .int .u64 (w8 x.1.1).b, .int .u64 (w8 x.1.1).c, .int .u64 (w8 x.1.1).d, .int .u64 (w8 x.1.1).e, .int .u64 (w8 x.1.1).f, .int .u64 (w8 x.1.1).g, .int .u64 (w8 x.1.1).h]) (fw_round l) (by rfl) (by rfl) h7 (by rfl) Try.underlying37 (by rfl) (by kernel_rfl) (by kernel_rfl) ?_
    conv => arg 7; simp only [Act.put, List.setIfInBounds_toArray, List.set_cons_zero, List.set_cons_succ]
    refine wpI_load (l := [.int .u64 (w8 x.1.2).a, .int .u64 (w8 x.1.2).b, .int .u64 (w8 x.1.2).c, .int .u64 (w8 x.1.2).d, .int .u64 (w8 x.1.2).e, .int .u64 (w8 x.1.2).f, .int .u64 (w8 x.1.2).g, .int .u64 (w8 x.1.2).h]) (fw_round l) (by rfl) (by rfl) h8 (by rfl) Try.underlying37 (by rfl) (by kernel_rfl) (by kernel_rfl) ?_
    conv => arg 7; simp only [Act.put, List.setIfInBounds_toArray, List.set_cons_zero, List.set_cons_succ]
    refine wpI_call (fw_round l) (by kernel_rfl) (by rfl) cf35 (by simp [Act.eval] <;> rfl) ?_
    refine (WidB.mulW hf1 hf2 _).mono ?_
    rintro e w4 ⟨rfl, hD⟩
    refine ⟨_, rfl, ?_⟩
    conv => arg 7; simp only [Act.put, List.setIfInBounds_toArray, List.set_cons_zero, List.set_cons_succ]
    iterate 3 (with_reducible refine wpI_v (v := ?_) (fw_round l) ?_ ?_ ?_ ?_; rotate_left; (· kernel_rfl); (· kernel_rfl); (· go_simp; try with_reducible rfl); conv => arg 7; simp only [Act.put, List.setIfInBounds_toArray, List.set_cons_zero, List.set_cons_succ])
    refine wpI_val (v := .pointer (some ⟨w4.heap.size, 0, none⟩)) (w' := w4.alloc (.cells [.int .u64 0, .int .u64 0, .int .u64 0, .int .u64 0, .int .u64 0, .int .u64 0, .int .u64 0, .int .u64 0].toArray 37)) (fw_round l) (by kernel_rfl) (by kernel_rfl) (by go_simp) ?_
    conv => arg 7; simp only [Act.put, List.setIfInBounds_toArray, List.set_cons_zero, List.set_cons_succ]
    refine wpI_store (cs := [.int .u64 (w8 (x.1.1 * x.1.2)).a, .int .u64 (w8 (x.1.1 * x.1.2)).b, .int .u64 (w8 (x.1.1 * x.1.2)).c, .int .u64 (w8 (x.1.1 * x.1.2)).d, .int .u64 (w8 (x.1.1 * x.1.2)).e, .int .u64 (w8 (x.1.1 * x.1.2)).f, .int .u64 (w8 (x.1.1 * x.1.2)).g, .int .u64 (w8 (x.1.1 * x.1.2)).h]) (fw_round l) (by rfl) (by rfl) (by rfl) (Box.new rfl) (by kernel_rfl) (by rfl) (by simp [Value.oneCell']) (by kernel_rfl) ?_
    conv => arg 7; simp only [Act.put, List.setIfInBounds_toArray, List.set_cons_zero, List.set_cons_succ]
    rw [alloc_setRow]
    iterate 1 (with_reducible refine wpI_v (v := ?_) (fw_round l) ?_ ?_ ?_ ?_; rotate_left; (· kernel_rfl); (· kernel_rfl); (· go_simp; try with_reducible rfl); conv => arg 7; simp only [Act.put, List.setIfInBounds_toArray, List.set_cons_zero, List.set_cons_succ])
    refine wpListIn_nil ?_
    have hD := hD.alloc hD.size (.cells [.int .u64 (w8 (x.1.1 * x.1.2)).a, .int .u64 (w8 (x.1.1 * x.1.2)).b, .int .u64 (w8 (x.1.1 * x.1.2)).c, .int .u64 (w8 (x.1.1 * x.1.2)).d, .int .u64 (w8 (x.1.1 * x.1.2)).e, .int .u64 (w8 (x.1.1 * x.1.2)).f, .int .u64 (w8 (x.1.1 * x.1.2)).g, .int .u64 (w8 (x.1.1 * x.1.2)).h].toArray 37)
    have h9 : Box (w4.alloc (.cells [.int .u64 (w8 (x.1.1 * x.1.2)).a, .int .u64 (w8 (x.1.1 * x.1.2)).b, .int .u64 (w8 (x.1.1 * x.1.2)).c, .int .u64 (w8 (x.1.1 * x.1.2)).d, .int .u64 (w8 (x.1.1 * x.1.2)).e, .int .u64 (w8 (x.1.1 * x.1.2)).f, .int .u64 (w8 (x.1.1 * x.1.2)).g, .int .u64 (w8 (x.1.1 * x.1.2)).h].toArray 37)) w4.heap.size [.int .u64 (w8 (x.1.1 * x.1.2)).a, .int .u64 (w8 (x.1.1 * x.1.2)).b, .int .u64 (w8 (x.1.1 * x.1.2)).c, .int .u64 (w8 (x.1.1 * x.1.2)).d, .int .u64 (w8 (x.1.1 * x.1.2)).e, .int .u64 (w8 (x.1.1 * x.1.2)).f, .int .u64 (w8 (x.1.1 * x.1.2)).g, .int .u64 (w8 (x.1.1 * x.1.2)).h] 37 := Box.new rfl
    revert hD h9
    generalize w4.alloc (.cells [.int .u64 (w8 (x.1.1 * x.1.2)).a, .int .u64 (w8 (x.1.1 * x.1.2)).b, .int .u64 (w8 (x.1.1 * x.1.2)).c, .int .u64 (w8 (x.1.1 * x.1.2)).d, .int .u64 (w8 (x.1.1 * x.1.2)).e, .int .u64 (w8 (x.1.1 * x.1.2)).f, .int .u64 (w8 (x.1.1 * x.1.2)).g, .int .u64 (w8 (x.1.1 * x.1.2)).h].toArray 37) = w5
    generalize w4.heap.size = B9
    intro hD h9
    have hS5 := hS.step hD
    iterate 5 gi_step
    iterate 2 (with_reducible refine wpI_v (v := ?_) (fw_round l) ?_ ?_ ?_ ?_; rotate_left; (· kernel_rfl); (· kernel_rfl); (· go_simp; try with_reducible rfl); conv => arg 7; simp only [Act.put, List.setIfInBounds_toArray, List.set_cons_zero, List.set_cons_succ])
    refine wpListIn_nil ?_
    iterate 8 gi_step
    refine wpI_load (l := [.int .u64 (w8 (sum pre)).a, .int .u64 (w8 (sum pre)).b, .int .u64 (w8 (sum pre)).c, .int .u64 (w8 (sum pre)).d, .int .u64 (w8 (sum pre)).e, .int .u64 (w8 (sum pre)).f, .int .u64 (w8 (sum pre)).g, .int .u64 (w8 (sum pre)).h]) (fw_round l) (by rfl) (by rfl) hS5 (by rfl) Try.underlying37 (by rfl) (by kernel_rfl) (by kernel_rfl) ?_
    conv => arg 7; simp only [Act.put, List.setIfInBounds_toArray, List.set_cons_zero, List.set_cons_succ]
    refine wpI_load (l := [.int .u64 (w8 (x.1.1 * x.1.2)).a, .int .u64 (w8 (x.1.1 * x.1.2)).b, .int .u64 (w8 (x.1.1 * x.1.2)).c, .int .u64 (w8 (x.1.1 * x.1.2)).d, .int .u64 (w8 (x.1.1 * x.1.2)).e, .int .u64 (w8 (x.1.1 * x.1.2)).f, .int .u64 (w8 (x.1.1 * x.1.2)).g, .int .u64 (w8 (x.1.1 * x.1.2)).h]) (fw_round l) (by rfl) (by rfl) h9 (by rfl) Try.underlying37 (by rfl) (by kernel_rfl) (by kernel_rfl) ?_
    conv => arg 7; simp only [Act.put, List.setIfInBounds_toArray, List.set_cons_zero, List.set_cons_succ]
    refine wpI_call (fw_round l) (by kernel_rfl) (by rfl) cf36 (by simp [Act.eval] <;> rfl) ?_
    refine (WidA.addW e1 e2 e3 _).mono ?_
    rintro e w6 ⟨rfl, hE⟩
    refine ⟨_, rfl, ?_⟩
    conv => arg 7; simp only [Act.put, List.setIfInBounds_toArray, List.set_cons_zero, List.set_cons_succ]
    have hS6 := hS5.step hE
    have hD6 := hD.trans (hE.mono hD.size)
    iterate 3 (with_reducible refine wpI_v (v := ?_) (fw_round l) ?_ ?_ ?_ ?_; rotate_left; (· kernel_rfl); (· kernel_rfl); (· go_simp; try with_reducible rfl); conv => arg 7; simp only [Act.put, List.setIfInBounds_toArray, List.set_cons_zero, List.set_cons_succ])
    refine wpI_store (cs := [.int .u64 (w8 (sum pre + x.1.1 * x.1.2)).a, .int .u64 (w8 (sum pre + x.1.1 * x.1.2)).b, .int .u64 (w8 (sum pre + x.1.1 * x.1.2)).c, .int .u64 (w8 (sum pre + x.1.1 * x.1.2)).d, .int .u64 (w8 (sum pre + x.1.1 * x.1.2)).e, .int .u64 (w8 (sum pre + x.1.1 * x.1.2)).f, .int .u64 (w8 (sum pre + x.1.1 * x.1.2)).g, .int .u64 (w8 (sum pre + x.1.1 * x.1.2)).h]) (fw_round l) (by rfl) (by rfl) (by rfl) hS6 (by kernel_rfl) (by rfl) (by simp [Value.oneCell']) (by kernel_rfl) ?_
    conv => arg 7; simp only [Act.put, List.setIfInBounds_toArray, List.set_cons_zero, List.set_cons_succ]
    iterate 1 (with_reducible refine wpI_v (v := ?_) (fw_round l) ?_ ?_ ?_ ?_; rotate_left; (· kernel_rfl); (· kernel_rfl); (· go_simp; try with_reducible rfl); conv => arg 7; simp only [Act.put, List.setIfInBounds_toArray, List.set_cons_zero, List.set_cons_succ])
    refine wpListIn_nil ?_
    iterate 4 gi_step
    iterate 2 (with_reducible refine wpI_v (v := ?_) (fw_round l) ?_ ?_ ?_ ?_; rotate_left; (· kernel_rfl); (· kernel_rfl); (· go_simp; try with_reducible rfl); conv => arg 7; simp only [Act.put, List.setIfInBounds_toArray, List.set_cons_zero, List.set_cons_succ])
    refine wpListIn_nil ?_
    iterate 6 gi_step
    have g6 := hD6.size
    refine ⟨(keepsFrom_below hD6).trans (keepsFrom_setRow hS6 _), ⟨?_, ?_⟩, ⟨⟨⟨?_, (hR.step hD6).rowOther (by omega) _⟩, (hK.step hD6).rowOther (by omega) _⟩, below_setRow (hW.trans (hD6.mono hW.size)) (by omega) _, by simp [World.setRow]; omega⟩⟩
    · rw [setRow_other _ _ _ _ (by omega)]; exact hD6.block _ (by omega)
    · rw [setRow_other _ _ _ _ (by omega)]; exact hD6.block _ (by omega)
    · rw [sum_snoc]; exact hS6.row _
  case done =>
    rintro D xs W hD rfl ⟨⟨⟨hS, hR⟩, hK⟩, hW, hz⟩ hDf
    iterate 4 go_step
    have es : sum [(⟨(a, p.x), ha, hp.x⟩ : GIt.Two), ⟨(b, p.y), hb, hp.y⟩, ⟨(c, p.z), hc, hp.z⟩] = a * p.x + b * p.y + c * p.z := by simp [sum]; omega
    rw [es] at hS
    clear es
    refine wpL_load (l := [.int .u64 (w8 (a * p.x + b * p.y + c * p.z)).a, .int .u64 (w8 (a * p.x + b * p.y + c * p.z)).b, .int .u64 (w8 (a * p.x + b * p.y + c * p.z)).c, .int .u64 (w8 (a * p.x + b * p.y + c * p.z)).d, .int .u64 (w8 (a * p.x + b * p.y + c * p.z)).e, .int .u64 (w8 (a * p.x + b * p.y + c * p.z)).f, .int .u64 (w8 (a * p.x + b * p.y + c * p.z)).g, .int .u64 (w8 (a * p.x + b * p.y + c * p.z)).h]) (by rfl) (by rfl) hS Try.underlying37 (by rfl) (by kernel_rfl) (by kernel_rfl) ?_
    simp only [Act.put, List.setIfInBounds_toArray, List.set_cons_zero, List.set_cons_succ]
    refine wpL_store (cs := [.int .u64 (w8 (a * p.x + b * p.y + c * p.z)).a, .int .u64 (w8 (a * p.x + b * p.y + c * p.z)).b, .int .u64 (w8 (a * p.x + b * p.y + c * p.z)).c, .int .u64 (w8 (a * p.x + b * p.y + c * p.z)).d, .int .u64 (w8 (a * p.x + b * p.y + c * p.z)).e, .int .u64 (w8 (a * p.x + b * p.y + c * p.z)).f, .int .u64 (w8 (a * p.x + b * p.y + c * p.z)).g, .int .u64 (w8 (a * p.x + b * p.y + c * p.z)).h]) (by rfl) (by rfl) (by rfl) hR (by kernel_rfl) (by rfl) (by simp [Value.oneCell']) (by kernel_rfl) ?_
    simp only [Act.put, List.setIfInBounds_toArray, List.set_cons_zero, List.set_cons_succ]
    have hR := hR.row [.int .u64 (w8 (a * p.x + b * p.y + c * p.z)).a, .int .u64 (w8 (a * p.x + b * p.y + c * p.z)).b, .int .u64 (w8 (a * p.x + b * p.y + c * p.z)).c, .int .u64 (w8 (a * p.x + b * p.y + c * p.z)).d, .int .u64 (w8 (a * p.x + b * p.y + c * p.z)).e, .int .u64 (w8 (a * p.x + b * p.y + c * p.z)).f, .int .u64 (w8 (a * p.x + b * p.y + c * p.z)).g, .int .u64 (w8 (a * p.x + b * p.y + c * p.z)).h]
    have hK := hK.rowOther (g := w.heap.size + 1 + 1) (by omega) [.int .u64 (w8 (a * p.x + b * p.y + c * p.z)).a, .int .u64 (w8 (a * p.x + b * p.y + c * p.z)).b, .int .u64 (w8 (a * p.x + b * p.y + c * p.z)).c, .int .u64 (w8 (a * p.x + b * p.y + c * p.z)).d, .int .u64 (w8 (a * p.x + b * p.y + c * p.z)).e, .int .u64 (w8 (a * p.x + b * p.y + c * p.z)).f, .int .u64 (w8 (a * p.x + b * p.y + c * p.z)).g, .int .u64 (w8 (a * p.x + b * p.y + c * p.z)).h].toArray
    have hW := below_setRow hW (g := w.heap.size + 1 + 1) (by omega) [.int .u64 (w8 (a * p.x + b * p.y + c * p.z)).a, .int .u64 (w8 (a * p.x + b * p.y + c * p.z)).b, .int .u64 (w8 (a * p.x + b * p.y + c * p.z)).c, .int .u64 (w8 (a * p.x + b * p.y + c * p.z)).d, .int .u64 (w8 (a * p.x + b * p.y + c * p.z)).e, .int .u64 (w8 (a * p.x + b * p.y + c * p.z)).f, .int .u64 (w8 (a * p.x + b * p.y + c * p.z)).g, .int .u64 (w8 (a * p.x + b * p.y + c * p.z)).h].toArray
    have hDf : (W.setRow (w.heap.size + 1 + 1) [.int .u64 (w8 (a * p.x + b * p.y + c * p.z)).a, .int .u64 (w8 (a * p.x + b * p.y + c * p.z)).b, .int .u64 (w8 (a * p.x + b * p.y + c * p.z)).c, .int .u64 (w8 (a * p.x + b * p.y + c * p.z)).d, .int .u64 (w8 (a * p.x + b * p.y + c * p.z)).e, .int .u64 (w8 (a * p.x + b * p.y + c * p.z)).f, .int .u64 (w8 (a * p.x + b * p.y + c * p.z)).g, .int .u64 (w8 (a * p.x + b * p.y + c * p.z)).h].toArray).heap[D]? = some (.deferred (some [])) := by rw [setRow_other _ _ _ _ (by omega)]; exact hDf
    clear hS
    revert hR hK hW hDf
    generalize W.setRow (w.heap.size + 1 + 1) [.int .u64 (w8 (a * p.x + b * p.y + c * p.z)).a, .int .u64 (w8 (a * p.x + b * p.y + c * p.z)).b, .int .u64 (w8 (a * p.x + b * p.y + c * p.z)).c, .int .u64 (w8 (a * p.x + b * p.y + c * p.z)).d, .int .u64 (w8 (a * p.x + b * p.y + c * p.z)).e, .int .u64 (w8 (a * p.x + b * p.y + c * p.z)).f, .int .u64 (w8 (a * p.x + b * p.y + c * p.z)).g, .int .u64 (w8 (a * p.x + b * p.y + c * p.z)).h].toArray = W2
    intro hR hK hW hDf
    have lK := hK.lt
    have k0 := hK.cell 0; have kf := hK.free
    simp only [List.getElem?_cons_zero] at k0
    go_wp2
    have hDf2 := (KeepsOthers.setCell W2 ⟨w.heap.size + 1 + 1 + 1, 0, none⟩ (.bool true)).same D _ hDf rfl
    have hR2 := hR.other (p := ⟨w.heap.size + 1 + 1 + 1, 0, none⟩) (by simp) (.bool true)
    have hK2 := hK.set 0 (.bool true)
    have hW2 := hW.setCell (p := ⟨w.heap.size + 1 + 1 + 1, 0, none⟩) (by simp; omega) (.bool true)
    have hD2 := hW2.trans (belowK_b (w := w) (Nat.le_refl _) _ D _ (.deferred none) (by omega) hDf2 rfl rfl)
    have hR3 : Box ((W2.setCell ⟨w.heap.size + 1 + 1 + 1, 0, none⟩ (.bool true)).putObj D (.deferred none)) _ _ _ := (World.putObj_heap_other (by omega)).trans hR2
    have hK3 : Box ((W2.setCell ⟨w.heap.size + 1 + 1 + 1, 0, none⟩ (.bool true)).putObj D (.deferred none)) _ _ _ := (World.putObj_heap_other (by omega)).trans hK2
    refine ⟨by simp, .inl ⟨_, _, rfl, run_takeDeferred hDf2, ?_⟩⟩
    refine ⟨_, ?_, rfl, hD2⟩
    have q0 := (hR3).cell 0; have q1 := (hR3).cell 1; have q2 := (hR3).cell 2; have q3 := (hR3).cell 3; have q4 := (hR3).cell 4; have q5 := (hR3).cell 5; have q6 := (hR3).cell 6; have q7 := (hR3).cell 7; have qf := (hR3).free
    simp only [List.getElem?_cons_zero, List.getElem?_cons_succ] at q0 q1 q2 q3 q4 q5 q6 q7
    have z0 := hK3.cell 0
    simp only [List.getElem?_cons_zero, List.set_cons_zero] at z0
    simp [results, Try.results45, go_sem, *]
  case stop =>
    rintro D c pre W _ _ h _
    exact h.elim
end GAl
end Go.Proofs.Ytbbiefgmlklafaa
