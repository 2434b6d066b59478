/- Integers of 512 bits as eight words: the walk of a sum. No condition. -/
import Derived.Test.YtbcjnckejkjfeaaWid
namespace Go.Proofs.Ytbcjnckejkjfeaa
set_option linter.unusedVariables false
set_option linter.unusedSimpArgs false
open Go.RowKit Go.NP
/-- What a sum's loop keeps: the two rows, the carry, the answer's row. -/
structure PlusI (W : World) (ba bb br bc : Nat) (la lb : List Value) (c : Int) (w : World) : Prop where
  A : Box w ba la 128
  B : Box w bb lb 128
  R : Box w br [.int .u64 0, .int .u64 0, .int .u64 0, .int .u64 0, .int .u64 0, .int .u64 0, .int .u64 0, .int .u64 0] 128
  K : Box w bc [.int .u64 c] 106
  W : Below W.heap.size W w
theorem PlusI.drew {W : World} {ba bb br bc : Nat} {la lb : List Value} {c : Int} {w : World} (h : PlusI W ba bb br bc la lb c w) : PlusI W ba bb br bc la lb c w.drew := ⟨h.A, h.B, h.R, h.K, h.W.drew⟩
theorem PlusI.carry {W : World} {ba bb br bc : Nat} {la lb : List Value} {c : Int} {w : World} (h : PlusI W ba bb br bc la lb c w) (h1 : ba ≠ bc ∧ bb ≠ bc ∧ br ≠ bc) (h2 : W.heap.size ≤ bc) (c' : Int) :
    PlusI W ba bb br bc la lb c' (w.setCell ⟨bc, 0, none⟩ (.int .u64 c')) :=
  ⟨h.A.other (fun e => h1.1 e.symm) _, h.B.other (fun e => h1.2.1 e.symm) _, h.R.other (fun e => h1.2.2 e.symm) _, h.K.set 0 _, h.W.setCell h2 _⟩
theorem PlusI.put {W : World} {ba bb br bc : Nat} {la lb : List Value} {c : Int} {w : World} (h : PlusI W ba bb br bc la lb c w) (h1 : ba ≠ bc ∧ bb ≠ ba ∧ br ≠ ba) (h2 : W.heap.size ≤ ba) (j : Nat) (v : Value) :
    PlusI W ba bb br bc (la.set j v) lb c (w.setCell ⟨ba, j, none⟩ v) :=
  ⟨h.A.set j _, h.B.other (fun e => h1.2.1 e.symm) _, h.R.other (fun e => h1.2.2 e.symm) _, h.K.other h1.1 _, h.W.setCell h2 _⟩
set_option maxRecDepth 100000 in
set_option maxHeartbeats 4000000 in
theorem plusC (x y : L8) (c : Int) (hx : x.ok) (hy : y.ok) (hc : is01 c) (w : World) : RetB Try.prog 103 #[.agg #[.int .u64 x.a, .int .u64 x.b, .int .u64 x.c, .int .u64 x.d, .int .u64 x.e, .int .u64 x.f, .int .u64 x.g, .int .u64 x.h], .agg #[.int .u64 y.a, .int .u64 y.b, .int .u64 y.c, .int .u64 y.d, .int .u64 y.e, .int .u64 y.f, .int .u64 y.g, .int .u64 y.h], .int .u64 c] w (.agg #[.int .u64 (plus8 x y c).a, .int .u64 (plus8 x y c).b, .int .u64 (plus8 x y c).c, .int .u64 (plus8 x y c).d, .int .u64 (plus8 x y c).e, .int .u64 (plus8 x y c).f, .int .u64 (plus8 x y c).g, .int .u64 (plus8 x y c).h]) := by
  have hk0 := hc
  have hk1 : is01 (k1 x y c) := c64_is hx.a hy.a hk0
  have hk2 : is01 (k2 x y c) := c64_is hx.b hy.b hk1
  have hk3 : is01 (k3 x y c) := c64_is hx.c hy.c hk2
  have hk4 : is01 (k4 x y c) := c64_is hx.d hy.d hk3
  have hk5 : is01 (k5 x y c) := c64_is hx.e hy.e hk4
  have hk6 : is01 (k6 x y c) := c64_is hx.f hy.f hk5
  have hk7 : is01 (k7 x y c) := c64_is hx.g hy.g hk6
  have hk8 : is01 (k8 x y c) := c64_is hx.h hy.h hk7
  unfold RetB
  go_enter Try.func103, Try.ntmps103
  go_wp2_with fail
  refine (adderC c _).mono ?_
  rintro e w' ⟨rfl, rfl⟩
  go_wp2
  have HI : PlusI w w.heap.size (w.heap.size + 1) (w.heap.size + 1 + 1) (w.heap.size + 1 + 1 + 1) [.int .u64 x.a, .int .u64 x.b, .int .u64 x.c, .int .u64 x.d, .int .u64 x.e, .int .u64 x.f, .int .u64 x.g, .int .u64 x.h] [.int .u64 y.a, .int .u64 y.b, .int .u64 y.c, .int .u64 y.d, .int .u64 y.e, .int .u64 y.f, .int .u64 y.g, .int .u64 y.h] c ((((w.alloc (.cells #[.int .u64 x.a, .int .u64 x.b, .int .u64 x.c, .int .u64 x.d, .int .u64 x.e, .int .u64 x.f, .int .u64 x.g, .int .u64 x.h] 128)).alloc (.cells #[.int .u64 y.a, .int .u64 y.b, .int .u64 y.c, .int .u64 y.d, .int .u64 y.e, .int .u64 y.f, .int .u64 y.g, .int .u64 y.h] 128)).alloc (.cells #[.int .u64 0, .int .u64 0, .int .u64 0, .int .u64 0, .int .u64 0, .int .u64 0, .int .u64 0, .int .u64 0] 128)).alloc (.cells #[.int .u64 c] 106)) :=
    ⟨(((Box.new rfl).alloc _).alloc _).alloc _, ((Box.new (by simp)).alloc _).alloc _, (Box.new (by simp)).alloc _, Box.new (by simp), ((((Below.refl _ _).alloc (Nat.le_refl _) _).alloc (by simp) _).alloc (by simp; omega) _).alloc (by simp; omega) _⟩
  revert HI
  generalize (((w.alloc (.cells #[.int .u64 x.a, .int .u64 x.b, .int .u64 x.c, .int .u64 x.d, .int .u64 x.e, .int .u64 x.f, .int .u64 x.g, .int .u64 x.h] 128)).alloc (.cells #[.int .u64 y.a, .int .u64 y.b, .int .u64 y.c, .int .u64 y.d, .int .u64 y.e, .int .u64 y.f, .int .u64 y.g, .int .u64 y.h] 128)).alloc (.cells #[.int .u64 0, .int .u64 0, .int .u64 0, .int .u64 0, .int .u64 0, .int .u64 0, .int .u64 0, .int .u64 0] 128)).alloc (.cells #[.int .u64 c] 106) = W0
  intro HI
  refine wp_loop_rounds 9 ?_
  rw [rounds_succ]
  go_wp2
  refine wp_region_ph [(10, .free [])] (by kernel_rfl) (by kernel_rfl) ?_
  refine Ph.one 8 (PlusI w w.heap.size (w.heap.size + 1) (w.heap.size + 1 + 1) (w.heap.size + 1 + 1 + 1) [.int .u64 x.a, .int .u64 x.b, .int .u64 x.c, .int .u64 x.d, .int .u64 x.e, .int .u64 x.f, .int .u64 x.g, .int .u64 x.h] [.int .u64 y.a, .int .u64 y.b, .int .u64 y.c, .int .u64 y.d, .int .u64 y.e, .int .u64 y.f, .int .u64 y.g, .int .u64 y.h] c) (PlusI w w.heap.size (w.heap.size + 1) (w.heap.size + 1 + 1) (w.heap.size + 1 + 1 + 1) [.int .u64 x.a, .int .u64 x.b, .int .u64 x.c, .int .u64 x.d, .int .u64 x.e, .int .u64 x.f, .int .u64 x.g, .int .u64 x.h] [.int .u64 y.a, .int .u64 y.b, .int .u64 y.c, .int .u64 y.d, .int .u64 y.e, .int .u64 y.f, .int .u64 y.g, .int .u64 y.h] (k1 x y c)) (by rfl) HI.drew ?_
  simp only [List.drop_succ_cons, List.drop_zero, List.take_succ_cons, List.take_zero, Nat.reduceSub, Nat.sub_zero]
  iterate 8 (refine SeqO.val1 (v := ?_) (by rfl) (by rfl) (fun w1 hR => ?_) ?_; rotate_left; (· have a1 := (hR.elim PlusI.A PlusI.A).cell 0; have b1 := (hR.elim PlusI.B PlusI.B).cell 0; simp only [List.getElem?_cons_zero, List.getElem?_cons_succ] at a1 b1; clear hR; go_simp; try with_reducible rfl); simp only [Act.put, List.setIfInBounds_toArray, List.set_cons_zero, List.set_cons_succ])
  refine SeqO.call1 (args := #[.int .u64 x.a, .int .u64 y.a, .pointer (some ⟨w.heap.size + 1 + 1 + 1, 0, none⟩)]) (by rfl) (by rfl) (by rfl) cf106 (by simp [Act.eval]) (fun w1 hR => (adder1C x.a y.a c hx.a hy.a hk0 (w.heap.size + 1 + 1 + 1) w1 (hR.K.cell 0) (hR.K.free 0)).mono fun e w' ⟨he, hw⟩ => ⟨he, hw ▸ hR.carry (by omega) (by omega) _⟩) ?_
  simp only [Act.put, List.setIfInBounds_toArray, List.set_cons_zero, List.set_cons_succ]
  refine SeqO.val1 (v := ?_) (by rfl) (by rfl) (fun w1 hR => ?_) ?_; rotate_left; (· clear hR; go_simp; try with_reducible rfl); simp only [Act.put, List.setIfInBounds_toArray, List.set_cons_zero, List.set_cons_succ]
  refine SeqO.nil1 (by omega) fun w2 HI2 => ?_
  refine Ph.last ?_
  simp only [List.drop_succ_cons, List.drop_zero, List.take_succ_cons, List.take_zero, Nat.reduceSub, Nat.sub_zero]
  have a1 := HI2.A.cell 0; have a2 := HI2.A.free 0
  simp only [List.getElem?_cons_zero, List.getElem?_cons_succ] at a1
  have HI3 : PlusI w w.heap.size (w.heap.size + 1) (w.heap.size + 1 + 1) (w.heap.size + 1 + 1 + 1) [.int .u64 (s64 x.a y.a c), .int .u64 x.b, .int .u64 x.c, .int .u64 x.d, .int .u64 x.e, .int .u64 x.f, .int .u64 x.g, .int .u64 x.h] [.int .u64 y.a, .int .u64 y.b, .int .u64 y.c, .int .u64 y.d, .int .u64 y.e, .int .u64 y.f, .int .u64 y.g, .int .u64 y.h] (k1 x y c) (w2.setCell ⟨w.heap.size, 0, none⟩ (.int .u64 (s64 x.a y.a c))) := HI2.put (by omega) (by omega) 0 _
  clear HI
  go_wp2
  clear a1 a2 HI2
  revert HI3
  generalize w2.setCell ⟨w.heap.size, 0, none⟩ (.int .u64 (s64 x.a y.a c)) = W1
  intro HI
  rw [rounds_succ]
  go_wp2
  refine wp_region_ph [(10, .free [])] (by kernel_rfl) (by kernel_rfl) ?_
  refine Ph.one 8 (PlusI w w.heap.size (w.heap.size + 1) (w.heap.size + 1 + 1) (w.heap.size + 1 + 1 + 1) [.int .u64 (s64 x.a y.a c), .int .u64 x.b, .int .u64 x.c, .int .u64 x.d, .int .u64 x.e, .int .u64 x.f, .int .u64 x.g, .int .u64 x.h] [.int .u64 y.a, .int .u64 y.b, .int .u64 y.c, .int .u64 y.d, .int .u64 y.e, .int .u64 y.f, .int .u64 y.g, .int .u64 y.h] (k1 x y c)) (PlusI w w.heap.size (w.heap.size + 1) (w.heap.size + 1 + 1) (w.heap.size + 1 + 1 + 1) [.int .u64 (s64 x.a y.a c), .int .u64 x.b, .int .u64 x.c, .int .u64 x.d, .int .u64 x.e, .int .u64 x.f, .int .u64 x.g, .int .u64 x.h] [.int .u64 y.a, .int .u64 y.b, .int .u64 y.c, .int .u64 y.d, .int .u64 y.e, .int .u64 y.f, .int .u64 y.g, .int .u64 y.h] (k2 x y c)) (by rfl) HI.drew ?_
  simp only [List.drop_succ_cons, List.drop_zero, List.take_succ_cons, List.take_zero, Nat.reduceSub, Nat.sub_zero]
  iterate 8 (refine SeqO.val1 (v := ?_) (by rfl) (by rfl) (fun w1 hR => ?_) ?_; rotate_left; (· have a1 := (hR.elim PlusI.A PlusI.A).cell 1; have b1 := (hR.elim PlusI.B PlusI.B).cell 1; simp only [List.getElem?_cons_zero, List.getElem?_cons_succ] at a1 b1; clear hR; go_simp; try with_reducible rfl); simp only [Act.put, List.setIfInBounds_toArray, List.set_cons_zero, List.set_cons_succ])
  refine SeqO.call1 (args := #[.int .u64 x.b, .int .u64 y.b, .pointer (some ⟨w.heap.size + 1 + 1 + 1, 0, none⟩)]) (by rfl) (by rfl) (by rfl) cf106 (by simp [Act.eval]) (fun w1 hR => (adder1C x.b y.b (k1 x y c) hx.b hy.b hk1 (w.heap.size + 1 + 1 + 1) w1 (hR.K.cell 0) (hR.K.free 0)).mono fun e w' ⟨he, hw⟩ => ⟨he, hw ▸ hR.carry (by omega) (by omega) _⟩) ?_
  simp only [Act.put, List.setIfInBounds_toArray, List.set_cons_zero, List.set_cons_succ]
  refine SeqO.val1 (v := ?_) (by rfl) (by rfl) (fun w1 hR => ?_) ?_; rotate_left; (· clear hR; go_simp; try with_reducible rfl); simp only [Act.put, List.setIfInBounds_toArray, List.set_cons_zero, List.set_cons_succ]
  refine SeqO.nil1 (by omega) fun w2 HI2 => ?_
  refine Ph.last ?_
  simp only [List.drop_succ_cons, List.drop_zero, List.take_succ_cons, List.take_zero, Nat.reduceSub, Nat.sub_zero]
  have a1 := HI2.A.cell 1; have a2 := HI2.A.free 1
  simp only [List.getElem?_cons_zero, List.getElem?_cons_succ] at a1
  have HI3 : PlusI w w.heap.size (w.heap.size + 1) (w.heap.size + 1 + 1) (w.heap.size + 1 + 1 + 1) [.int .u64 (s64 x.a y.a c), .int .u64 (s64 x.b y.b (k1 x y c)), .int .u64 x.c, .int .u64 x.d, .int .u64 x.e, .int .u64 x.f, .int .u64 x.g, .int .u64 x.h] [.int .u64 y.a, .int .u64 y.b, .int .u64 y.c, .int .u64 y.d, .int .u64 y.e, .int .u64 y.f, .int .u64 y.g, .int .u64 y.h] (k2 x y c) (w2.setCell ⟨w.heap.size, 1, none⟩ (.int .u64 (s64 x.b y.b (k1 x y c)))) := HI2.put (by omega) (by omega) 1 _
  clear HI
  go_wp2
  clear a1 a2 HI2
  revert HI3
  generalize w2.setCell ⟨w.heap.size, 1, none⟩ (.int .u64 (s64 x.b y.b (k1 x y c))) = W2
  intro HI
  rw [rounds_succ]
  go_wp2
  refine wp_region_ph [(10, .free [])] (by kernel_rfl) (by kernel_rfl) ?_
  refine Ph.one 8 (PlusI w w.heap.size (w.heap.size + 1) (w.heap.size + 1 + 1) (w.heap.size + 1 + 1 + 1) [.int .u64 (s64 x.a y.a c), .int .u64 (s64 x.b y.b (k1 x y c)), .int .u64 x.c, .int .u64 x.d, .int .u64 x.e, .int .u64 x.f, .int .u64 x.g, .int .u64 x.h] [.int .u64 y.a, .int .u64 y.b, .int .u64 y.c, .int .u64 y.d, .int .u64 y.e, .int .u64 y.f, .int .u64 y.g, .int .u64 y.h] (k2 x y c)) (PlusI w w.heap.size (w.heap.size + 1) (w.heap.size + 1 + 1) (w.heap.size + 1 + 1 + 1) [.int .u64 (s64 x.a y.a c), .int .u64 (s64 x.b y.b (k1 x y c)), .int .u64 x.c, .int .u64 x.d, .int .u64 x.e, .int .u64 x.f, .int .u64 x.g, .int .u64 x.h] [.int .u64 y.a, .int .u64 y.b, .int .u64 y.c, .int .u64 y.d, .int .u64 y.e, .int .u64 y.f, .int .u64 y.g, .int .u64 y.h] (k3 x y c)) (by rfl) HI.drew ?_
  simp only [List.drop_succ_cons, List.drop_zero, List.take_succ_cons, List.take_zero, Nat.reduceSub, Nat.sub_zero]
  iterate 8 (refine SeqO.val1 (v := ?_) (by rfl) (by rfl) (fun w1 hR => ?_) ?_; rotate_left; (· have a1 := (hR.elim PlusI.A PlusI.A).cell 2; have b1 := (hR.elim PlusI.B PlusI.B).cell 2; simp only [List.getElem?_cons_zero, List.getElem?_cons_succ] at a1 b1; clear hR; go_simp; try with_reducible rfl); simp only [Act.put, List.setIfInBounds_toArray, List.set_cons_zero, List.set_cons_succ])
  refine SeqO.call1 (args := #[.int .u64 x.c, .int .u64 y.c, .pointer (some ⟨w.heap.size + 1 + 1 + 1, 0, none⟩)]) (by rfl) (by rfl) (by rfl) cf106 (by simp [Act.eval]) (fun w1 hR => (adder1C x.c y.c (k2 x y c) hx.c hy.c hk2 (w.heap.size + 1 + 1 + 1) w1 (hR.K.cell 0) (hR.K.free 0)).mono fun e w' ⟨he, hw⟩ => ⟨he, hw ▸ hR.carry (by omega) (by omega) _⟩) ?_
  simp only [Act.put, List.setIfInBounds_toArray, List.set_cons_zero, List.set_cons_succ]
  refine SeqO.val1 (v := ?_) (by rfl) (by rfl) (fun w1 hR => ?_) ?_; rotate_left; (· clear hR; go_simp; try with_reducible rfl); simp only [Act.put, List.setIfInBounds_toArray, List.set_cons_zero, List.set_cons_succ]
  refine SeqO.nil1 (by omega) fun w2 HI2 => ?_
  refine Ph.last ?_
  simp only [List.drop_succ_cons, List.drop_zero, List.take_succ_cons, List.take_zero, Nat.reduceSub, Nat.sub_zero]
  have a1 := HI2.A.cell 2; have a2 := HI2.A.free 2
  simp only [List.getElem?_cons_zero, List.getElem?_cons_succ] at a1
  have HI3 : PlusI w w.heap.size (w.heap.size + 1) (w.heap.size + 1 + 1) (w.heap.size + 1 + 1 + 1) [.int .u64 (s64 x.a y.a c), .int .u64 (s64 x.b y.b (k1 x y c)), .int .u64 (s64 x.c y.c (k2 x y c)), .int .u64 x.d, .int .u64 x.e, .int .u64 x.f, .int .u64 x.g, .int .u64 x.h] [.int .u64 y.a, .int .u64 y.b, .int .u64 y.c, .int .u64 y.d, .int .u64 y.e, .int .u64 y.f, .int .u64 y.g, .int .u64 y.h] (k3 x y c) (w2.setCell ⟨w.heap.size, 2, none⟩ (.int .u64 (s64 x.c y.c (k2 x y c)))) := HI2.put (by omega) (by omega) 2 _
  clear HI
  go_wp2
  clear a1 a2 HI2
  revert HI3
  generalize w2.setCell ⟨w.heap.size, 2, none⟩ (.int .u64 (s64 x.c y.c (k2 x y c))) = W3
  intro HI
  rw [rounds_succ]
  go_wp2
  refine wp_region_ph [(10, .free [])] (by kernel_rfl) (by kernel_rfl) ?_
  refine Ph.one 8 (PlusI w w.heap.size (w.heap.size + 1) (w.heap.size + 1 + 1) (w.heap.size + 1 + 1 + 1) [.int .u64 (s64 x.a y.a c), .int .u64 (s64 x.b y.b (k1 x y c)), .int .u64 (s64 x.c y.c (k2 x y c)), .int .u64 x.d, .int .u64 x.e, .int .u64 x.f, .int .u64 x.g, .int .u64 x.h] [.int .u64 y.a, .int .u64 y.b, .int .u64 y.c, .int .u64 y.d, .int .u64 y.e, .int .u64 y.f, .int .u64 y.g, .int .u64 y.h] (k3 x y c)) (PlusI w w.heap.size (w.heap.size + 1) (w.heap.size + 1 + 1) (w.heap.size + 1 + 1 + 1) [.int .u64 (s64 x.a y.a c), .int .u64 (s64 x.b y.b (k1 x y c)), .int .u64 (s64 x.c y.c (k2 x y c)), .int .u64 x.d, .int .u64 x.e, .int .u64 x.f, .int .u64 x.g, .int .u64 x.h] [.int .u64 y.a, .int .u64 y.b, .int .u64 y.c, .int .u64 y.d, .int .u64 y.e, .int .u64 y.f, .int .u64 y.g, .int .u64 y.h] (k4 x y c)) (by rfl) HI.drew ?_
  simp only [List.drop_succ_cons, List.drop_zero, List.take_succ_cons, List.take_zero, Nat.reduceSub, Nat.sub_zero]
  iterate 8 (refine SeqO.val1 (v := ?_) (by rfl) (by rfl) (fun w1 hR => ?_) ?_; rotate_left; (· have a1 := (hR.elim PlusI.A PlusI.A).cell 3; have b1 := (hR.elim PlusI.B PlusI.B).cell 3; simp only [List.getElem?_cons_zero, List.getElem?_cons_succ] at a1 b1; clear hR; go_simp; try with_reducible rfl); simp only [Act.put, List.setIfInBounds_toArray, List.set_cons_zero, List.set_cons_succ])
  refine SeqO.call1 (args := #[.int .u64 x.d, .int .u64 y.d, .pointer (some ⟨w.heap.size + 1 + 1 + 1, 0, none⟩)]) (by rfl) (by rfl) (by rfl) cf106 (by simp [Act.eval]) (fun w1 hR => (adder1C x.d y.d (k3 x y c) hx.d hy.d hk3 (w.heap.size + 1 + 1 + 1) w1 (hR.K.cell 0) (hR.K.free 0)).mono fun e w' ⟨he, hw⟩ => ⟨he, hw ▸ hR.carry (by omega) (by omega) _⟩) ?_
  simp only [Act.put, List.setIfInBounds_toArray, List.set_cons_zero, List.set_cons_succ]
  refine SeqO.val1 (v := ?_) (by rfl) (by rfl) (fun w1 hR => ?_) ?_; rotate_left; (· clear hR; go_simp; try with_reducible rfl); simp only [Act.put, List.setIfInBounds_toArray, List.set_cons_zero, List.set_cons_succ]
  refine SeqO.nil1 (by omega) fun w2 HI2 => ?_
  refine Ph.last ?_
  simp only [List.drop_succ_cons, List.drop_zero, List.take_succ_cons, List.take_zero, Nat.reduceSub, Nat.sub_zero]
  have a1 := HI2.A.cell 3; have a2 := HI2.A.free 3
  simp only [List.getElem?_cons_zero, List.getElem?_cons_succ] at a1
  have HI3 : PlusI w w.heap.size (w.heap.size + 1) (w.heap.size + 1 + 1) (w.heap.size + 1 + 1 + 1) [.int .u64 (s64 x.a y.a c), .int .u64 (s64 x.b y.b (k1 x y c)), .int .u64 (s64 x.c y.c (k2 x y c)), .int .u64 (s64 x.d y.d (k3 x y c)), .int .u64 x.e, .int .u64 x.f, .int .u64 x.g, .int .u64 x.h] [.int .u64 y.a, .int .u64 y.b, .int .u64 y.c, .int .u64 y.d, .int .u64 y.e, .int .u64 y.f, .int .u64 y.g, .int .u64 y.h] (k4 x y c) (w2.setCell ⟨w.heap.size, 3, none⟩ (.int .u64 (s64 x.d y.d (k3 x y c)))) := HI2.put (by omega) (by omega) 3 _
  clear HI
  go_wp2
  clear a1 a2 HI2
  revert HI3
  generalize w2.setCell ⟨w.heap.size, 3, none⟩ (.int .u64 (s64 x.d y.d (k3 x y c))) = W4
  intro HI
  rw [rounds_succ]
  go_wp2
  refine wp_region_ph [(10, .free [])] (by kernel_rfl) (by kernel_rfl) ?_
  refine Ph.one 8 (PlusI w w.heap.size (w.heap.size + 1) (w.heap.size + 1 + 1) (w.heap.size + 1 + 1 + 1) [.int .u64 (s64 x.a y.a c), .int .u64 (s64 x.b y.b (k1 x y c)), .int .u64 (s64 x.c y.c (k2 x y c)), .int .u64 (s64 x.d y.d (k3 x y c)), .int .u64 x.e, .int .u64 x.f, .int .u64 x.g, .int .u64 x.h] [.int .u64 y.a, .int .u64 y.b, .int .u64 y.c, .int .u64 y.d, .int .u64 y.e, .int .u64 y.f, .int .u64 y.g, .int .u64 y.h] (k4 x y c)) (PlusI w w.heap.size (w.heap.size + 1) (w.heap.size + 1 + 1) (w.heap.size + 1 + 1 + 1) [.int .u64 (s64 x.a y.a c), .int .u64 (s64 x.b y.b (k1 x y c)), .int .u64 (s64 x.c y.c (k2 x y c)), .int .u64 (s64 x.d y.d (k3 x y c)), .int .u64 x.e, .int .u64 x.f, .int .u64 x.g, .int .u64 x.h] [.int .u64 y.a, .int .u64 y.b, .int .u64 y.c, .int .u64 y.d, .int .u64 y.e, .int .u64 y.f, .int .u64 y.g, .int .u64 y.h] (k5 x y c)) (by rfl) HI.drew ?_
  simp only [List.drop_succ_cons, List.drop_zero, List.take_succ_cons, List.take_zero, Nat.reduceSub, Nat.sub_zero]
  iterate 8 (refine SeqO.val1 (v := ?_) (by rfl) (by rfl) (fun w1 hR => ?_) ?_; rotate_left; (· have a1 := (hR.elim PlusI.A PlusI.A).cell 4; have b1 := (hR.elim PlusI.B PlusI.B).cell 4; simp only [List.getElem?_cons_zero, List.getElem?_cons_succ] at a1 b1; clear hR; go_simp; try with_reducible rfl); simp only [Act.put, List.setIfInBounds_toArray, List.set_cons_zero, List.set_cons_succ])
  refine SeqO.call1 (args := #[.int .u64 x.e, .int .u64 y.e, .pointer (some ⟨w.heap.size + 1 + 1 + 1, 0, none⟩)]) (by rfl) (by rfl) (by rfl) cf106 (by simp [Act.eval]) (fun w1 hR => (adder1C x.e y.e (k4 x y c) hx.e hy.e hk4 (w.heap.size + 1 + 1 + 1) w1 (hR.K.cell 0) (hR.K.free 0)).mono fun e w' ⟨he, hw⟩ => ⟨he, hw ▸ hR.carry (by omega) (by omega) _⟩) ?_
  simp only [Act.put, List.setIfInBounds_toArray, List.set_cons_zero, List.set_cons_succ]
  refine SeqO.val1 (v := ?_) (by rfl) (by rfl) (fun w1 hR => ?_) ?_; rotate_left; (· clear hR; go_simp; try with_reducible rfl); simp only [Act.put, List.setIfInBounds_toArray, List.set_cons_zero, List.set_cons_succ]
  refine SeqO.nil1 (by omega) fun w2 HI2 => ?_
  refine Ph.last ?_
  simp only [List.drop_succ_cons, List.drop_zero, List.take_succ_cons, List.take_zero, Nat.reduceSub, Nat.sub_zero]
  have a1 := HI2.A.cell 4; have a2 := HI2.A.free 4
  simp only [List.getElem?_cons_zero, List.getElem?_cons_succ] at a1
  have HI3 : PlusI w w.heap.size (w.heap.size + 1) (w.heap.size + 1 + 1) (w.heap.size + 1 + 1 + 1) [.int .u64 (s64 x.a y.a c), .int .u64 (s64 x.b y.b (k1 x y c)), .int .u64 (s64 x.c y.c (k2 x y c)), .int .u64 (s64 x.d y.d (k3 x y c)), .int .u64 (s64 x.e y.e (k4 x y c)), .int .u64 x.f, .int .u64 x.g, .int .u64 x.h] [.int .u64 y.a, .int .u64 y.b, .int .u64 y.c, .int .u64 y.d, .int .u64 y.e, .int .u64 y.f, .int .u64 y.g, .int .u64 y.h] (k5 x y c) (w2.setCell ⟨w.heap.size, 4, none⟩ (.int .u64 (s64 x.e y.e (k4 x y c)))) := HI2.put (by omega) (by omega) 4 _
  clear HI
  go_wp2
  clear a1 a2 HI2
  revert HI3
  generalize w2.setCell ⟨w.heap.size, 4, none⟩ (.int .u64 (s64 x.e y.e (k4 x y c))) = W5
  intro HI
  rw [rounds_succ]
  go_wp2
  refine wp_region_ph [(10, .free [])] (by kernel_rfl) (by kernel_rfl) ?_
  refine Ph.one 8 (PlusI w w.heap.size (w.heap.size + 1) (w.heap.size + 1 + 1) (w.heap.size + 1 + 1 + 1) [.int .u64 (s64 x.a y.a c), .int .u64 (s64 x.b y.b (k1 x y c)), .int .u64 (s64 x.c y.c (k2 x y c)), .int .u64 (s64 x.d y.d (k3 x y c)), .int .u64 (s64 x.e y.e (k4 x y c)), .int .u64 x.f, .int .u64 x.g, .int .u64 x.h] [.int .u64 y.a, .int .u64 y.b, .int .u64 y.c, .int .u64 y.d, .int .u64 y.e, .int .u64 y.f, .int .u64 y.g, .int .u64 y.h] (k5 x y c)) (PlusI w w.heap.size (w.heap.size + 1) (w.heap.size + 1 + 1) (w.heap.size + 1 + 1 + 1) [.int .u64 (s64 x.a y.a c), .int .u64 (s64 x.b y.b (k1 x y c)), .int .u64 (s64 x.c y.c (k2 x y c)), .int .u64 (s64 x.d y.d (k3 x y c)), .int .u64 (s64 x.e y.e (k4 x y c)), .int .u64 x.f, .int .u64 x.g, .int .u64 x.h] [.int .u64 y.a, .int .u64 y.b, .int .u64 y.c, .int .u64 y.d, .int .u64 y.e, .int .u64 y.f, .int .u64 y.g, .int .u64 y.h] (k6 x y c)) (by rfl) HI.drew ?_
  simp only [List.drop_succ_cons, List.drop_zero, List.take_succ_cons, List.take_zero, Nat.reduceSub, Nat.sub_zero]
  iterate 8 (refine SeqO.val1 (v := ?_) (by rfl) (by rfl) (fun w1 hR => ?_) ?_; rotate_left; (· have a1 := (hR.elim PlusI.A PlusI.A).cell 5; have b1 := (hR.elim PlusI.B PlusI.B).cell 5; simp only [List.getElem?_cons_zero, List.getElem?_cons_succ] at a1 b1; clear hR; go_simp; try with_reducible rfl); simp only [Act.put, List.setIfInBounds_toArray, List.set_cons_zero, List.set_cons_succ])
  refine SeqO.call1 (args := #[.int .u64 x.f, .int .u64 y.f, .pointer (some ⟨w.heap.size + 1 + 1 + 1, 0, none⟩)]) (by rfl) (by rfl) (by rfl) cf106 (by simp [Act.eval]) (fun w1 hR => (adder1C x.f y.f (k5 x y c) hx.f hy.f hk5 (w.heap.size + 1 + 1 + 1) w1 (hR.K.cell 0) (hR.K.free 0)).mono fun e w' ⟨he, hw⟩ => ⟨he, hw ▸ hR.carry (by omega) (by omega) _⟩) ?_
  simp only [Act.put, List.setIfInBounds_toArray, List.set_cons_zero, List.set_cons_succ]
  refine SeqO.val1 (v := ?_) (by rfl) (by rfl) (fun w1 hR => ?_) ?_; rotate_left; (· clear hR; go_simp; try with_reducible rfl); simp only [Act.put, List.setIfInBounds_toArray, List.set_cons_zero, List.set_cons_succ]
  refine SeqO.nil1 (by omega) fun w2 HI2 => ?_
  refine Ph.last ?_
  simp only [List.drop_succ_cons, List.drop_zero, List.take_succ_cons, List.take_zero, Nat.reduceSub, Nat.sub_zero]
  have a1 := HI2.A.cell 5; have a2 := HI2.A.free 5
  simp only [List.getElem?_cons_zero, List.getElem?_cons_succ] at a1
  have HI3 : PlusI w w.heap.size (w.heap.size + 1) (w.heap.size + 1 + 1) (w.heap.size + 1 + 1 + 1) [.int .u64 (s64 x.a y.a c), .int .u64 (s64 x.b y.b (k1 x y c)), .int .u64 (s64 x.c y.c (k2 x y c)), .int .u64 (s64 x.d y.d (k3 x y c)), .int .u64 (s64 x.e y.e (k4 x y c)), .int .u64 (s64 x.f y.f (k5 x y c)), .int .u64 x.g, .int .u64 x.h] [.int .u64 y.a, .int .u64 y.b, .int .u64 y.c, .int .u64 y.d, .int .u64 y.e, .int .u64 y.f, .int .u64 y.g, .int .u64 y.h] (k6 x y c) (w2.setCell ⟨w.heap.size, 5, none⟩ (.int .u64 (s64 x.f y.f (k5 x y c)))) := HI2.put (by omega) (by omega) 5 _
  clear HI
  go_wp2
  clear a1 a2 HI2
  revert HI3
  generalize w2.setCell ⟨w.heap.size, 5, none⟩ (.int .u64 (s64 x.f y.f (k5 x y c))) = W6
  intro HI
  rw [rounds_succ]
  go_wp2
  refine wp_region_ph [(10, .free [])] (by kernel_rfl) (by kernel_rfl) ?_
  refine Ph.one 8 (PlusI w w.heap.size (w.heap.size + 1) (w.heap.size + 1 + 1) (w.heap.size + 1 + 1 + 1) [.int .u64 (s64 x.a y.a c), .int .u64 (s64 x.b y.b (k1 x y c)), .int .u64 (s64 x.c y.c (k2 x y c)), .int .u64 (s64 x.d y.d (k3 x y c)), .int .u64 (s64 x.e y.e (k4 x y c)), .int .u64 (s64 x.f y.f (k5 x y c)), .int .u64 x.g, .int .u64 x.h] [.int .u64 y.a, .int .u64 y.b, .int .u64 y.c, .int .u64 y.d, .int .u64 y.e, .int .u64 y.f, .int .u64 y.g, .int .u64 y.h] (k6 x y c)) (PlusI w w.heap.size (w.heap.size + 1) (w.heap.size + 1 + 1) (w.heap.size + 1 + 1 + 1) [.int .u64 (s64 x.a y.a c), .int .u64 (s64 x.b y.b (k1 x y c)), .int .u64 (s64 x.c y.c (k2 x y c)), .int .u64 (s64 x.d y.d (k3 x y c)), .int .u64 (s64 x.e y.e (k4 x y c)), .int .u64 (s64 x.f y.f (k5 x y c)), .int .u64 x.g, .int .u64 x.h] [.int .u64 y.a, .int .u64 y.b, .int .u64 y.c, .int .u64 y.d, .int .u64 y.e, .int .u64 y.f, .int .u64 y.g, .int .u64 y.h] (k7 x y c)) (by rfl) HI.drew ?_
  simp only [List.drop_succ_cons, List.drop_zero, List.take_succ_cons, List.take_zero, Nat.reduceSub, Nat.sub_zero]
  iterate 8 (refine SeqO.val1 (v := ?_) (by rfl) (by rfl) (fun w1 hR => ?_) ?_; rotate_left; (· have a1 := (hR.elim PlusI.A PlusI.A).cell 6; have b1 := (hR.elim PlusI.B PlusI.B).cell 6; simp only [List.getElem?_cons_zero, List.getElem?_cons_succ] at a1 b1; clear hR; go_simp; try with_reducible rfl); simp only [Act.put, List.setIfInBounds_toArray, List.set_cons_zero, List.set_cons_succ])
  refine SeqO.call1 (args := #[.int .u64 x.g, .int .u64 y.g, .pointer (some ⟨w.heap.size + 1 + 1 + 1, 0, none⟩)]) (by rfl) (by rfl) (by rfl) cf106 (by simp [Act.eval]) (fun w1 hR => (adder1C x.g y.g (k6 x y c) hx.g hy.g hk6 (w.heap.size + 1 + 1 + 1) w1 (hR.K.cell 0) (hR.K.free 0)).mono fun e w' ⟨he, hw⟩ => ⟨he, hw ▸ hR.carry (by omega) (by omega) _⟩) ?_
  simp only [Act.put, List.setIfInBounds_toArray, List.set_cons_zero, List.set_cons_succ]
  refine SeqO.val1 (v := ?_) (by rfl) (by rfl) (fun w1 hR => ?_) ?_; rotate_left; (· clear hR; go_simp; try with_reducible rfl); simp only [Act.put, List.setIfInBounds_toArray, List.set_cons_zero, List.set_cons_succ]
  refine SeqO.nil1 (by omega) fun w2 HI2 => ?_
  refine Ph.last ?_
  simp only [List.drop_succ_cons, List.drop_zero, List.take_succ_cons, List.take_zero, Nat.reduceSub, Nat.sub_zero]
  have a1 := HI2.A.cell 6; have a2 := HI2.A.free 6
  simp only [List.getElem?_cons_zero, List.getElem?_cons_succ] at a1
  have HI3 : PlusI w w.heap.size (w.heap.size + 1) (w.heap.size + 1 + 1) (w.heap.size + 1 + 1 + 1) [.int .u64 (s64 x.a y.a c), .int .u64 (s64 x.b y.b (k1 x y c)), .int .u64 (s64 x.c y.c (k2 x y c)), .int .u64 (s64 x.d y.d (k3 x y c)), .int .u64 (s64 x.e y.e (k4 x y c)), .int .u64 (s64 x.f y.f (k5 x y c)), .int .u64 (s64 x.g y.g (k6 x y c)), .int .u64 x.h] [.int .u64 y.a, .int .u64 y.b, .int .u64 y.c, .int .u64 y.d, .int .u64 y.e, .int .u64 y.f, .int .u64 y.g, .int .u64 y.h] (k7 x y c) (w2.setCell ⟨w.heap.size, 6, none⟩ (.int .u64 (s64 x.g y.g (k6 x y c)))) := HI2.put (by omega) (by omega) 6 _
  clear HI
  go_wp2
  clear a1 a2 HI2
  revert HI3
  generalize w2.setCell ⟨w.heap.size, 6, none⟩ (.int .u64 (s64 x.g y.g (k6 x y c))) = W7
  intro HI
  rw [rounds_succ]
  go_wp2
  refine wp_region_ph [(10, .free [])] (by kernel_rfl) (by kernel_rfl) ?_
  refine Ph.one 8 (PlusI w w.heap.size (w.heap.size + 1) (w.heap.size + 1 + 1) (w.heap.size + 1 + 1 + 1) [.int .u64 (s64 x.a y.a c), .int .u64 (s64 x.b y.b (k1 x y c)), .int .u64 (s64 x.c y.c (k2 x y c)), .int .u64 (s64 x.d y.d (k3 x y c)), .int .u64 (s64 x.e y.e (k4 x y c)), .int .u64 (s64 x.f y.f (k5 x y c)), .int .u64 (s64 x.g y.g (k6 x y c)), .int .u64 x.h] [.int .u64 y.a, .int .u64 y.b, .int .u64 y.c, .int .u64 y.d, .int .u64 y.e, .int .u64 y.f, .int .u64 y.g, .int .u64 y.h] (k7 x y c)) (PlusI w w.heap.size (w.heap.size + 1) (w.heap.size + 1 + 1) (w.heap.size + 1 + 1 + 1) [.int .u64 (s64 x.a y.a c), .int .u64 (s64 x.b y.b (k1 x y c)), .int .u64 (s64 x.c y.c (k2 x y c)), .int .u64 (s64 x.d y.d (k3 x y c)), .int .u64 (s64 x.e y.e (k4 x y c)), .int .u64 (s64 x.f y.f (k5 x y c)), .int .u64 (s64 x.g y.g (k6 x y c)), .int .u64 x.h] [.int .u64 y.a, .int .u64 y.b, .int .u64 y.c, .int .u64 y.d, .int .u64 y.e, .int .u64 y.f, .int .u64 y.g, .int .u64 y.h] (k8 x y c)) (by rfl) HI.drew ?_
  simp only [List.drop_succ_cons, List.drop_zero, List.take_succ_cons, List.take_zero, Nat.reduceSub, Nat.sub_zero]
  iterate 8 (refine SeqO.val1 (v := ?_) (by rfl) (by rfl) (fun w1 hR => ?_) ?_; rotate_left; (· have a1 := (hR.elim PlusI.A PlusI.A).cell 7; have b1 := (hR.elim PlusI.B PlusI.B).cell 7; simp only [List.getElem?_cons_zero, List.getElem?_cons_succ] at a1 b1; clear hR; go_simp; try with_reducible rfl); simp only [Act.put, List.setIfInBounds_toArray, List.set_cons_zero, List.set_cons_succ])
  refine SeqO.call1 (args := #[.int .u64 x.h, .int .u64 y.h, .pointer (some ⟨w.heap.size + 1 + 1 + 1, 0, none⟩)]) (by rfl) (by rfl) (by rfl) cf106 (by simp [Act.eval]) (fun w1 hR => (adder1C x.h y.h (k7 x y c) hx.h hy.h hk7 (w.heap.size + 1 + 1 + 1) w1 (hR.K.cell 0) (hR.K.free 0)).mono fun e w' ⟨he, hw⟩ => ⟨he, hw ▸ hR.carry (by omega) (by omega) _⟩) ?_
  simp only [Act.put, List.setIfInBounds_toArray, List.set_cons_zero, List.set_cons_succ]
  refine SeqO.val1 (v := ?_) (by rfl) (by rfl) (fun w1 hR => ?_) ?_; rotate_left; (· clear hR; go_simp; try with_reducible rfl); simp only [Act.put, List.setIfInBounds_toArray, List.set_cons_zero, List.set_cons_succ]
  refine SeqO.nil1 (by omega) fun w2 HI2 => ?_
  refine Ph.last ?_
  simp only [List.drop_succ_cons, List.drop_zero, List.take_succ_cons, List.take_zero, Nat.reduceSub, Nat.sub_zero]
  have a1 := HI2.A.cell 7; have a2 := HI2.A.free 7
  simp only [List.getElem?_cons_zero, List.getElem?_cons_succ] at a1
  have HI3 : PlusI w w.heap.size (w.heap.size + 1) (w.heap.size + 1 + 1) (w.heap.size + 1 + 1 + 1) [.int .u64 (s64 x.a y.a c), .int .u64 (s64 x.b y.b (k1 x y c)), .int .u64 (s64 x.c y.c (k2 x y c)), .int .u64 (s64 x.d y.d (k3 x y c)), .int .u64 (s64 x.e y.e (k4 x y c)), .int .u64 (s64 x.f y.f (k5 x y c)), .int .u64 (s64 x.g y.g (k6 x y c)), .int .u64 (s64 x.h y.h (k7 x y c))] [.int .u64 y.a, .int .u64 y.b, .int .u64 y.c, .int .u64 y.d, .int .u64 y.e, .int .u64 y.f, .int .u64 y.g, .int .u64 y.h] (k8 x y c) (w2.setCell ⟨w.heap.size, 7, none⟩ (.int .u64 (s64 x.h y.h (k7 x y c)))) := HI2.put (by omega) (by omega) 7 _
  clear HI
  go_wp2
  clear a1 a2 HI2
  revert HI3
  generalize w2.setCell ⟨w.heap.size, 7, none⟩ (.int .u64 (s64 x.h y.h (k7 x y c))) = W8
  intro HI
  rw [rounds_succ]
  have q0 := (HI.A).cell 0; have q1 := (HI.A).cell 1; have q2 := (HI.A).cell 2; have q3 := (HI.A).cell 3; have q4 := (HI.A).cell 4; have q5 := (HI.A).cell 5; have q6 := (HI.A).cell 6; have q7 := (HI.A).cell 7; have qf := (HI.A).free
  simp only [List.getElem?_cons_zero, List.getElem?_cons_succ] at q0 q1 q2 q3 q4 q5 q6 q7
  have z0 := (HI.R).cell 0; have z1 := (HI.R).cell 1; have z2 := (HI.R).cell 2; have z3 := (HI.R).cell 3; have z4 := (HI.R).cell 4; have z5 := (HI.R).cell 5; have z6 := (HI.R).cell 6; have z7 := (HI.R).cell 7; have zf := (HI.R).free
  simp only [List.getElem?_cons_zero, List.getElem?_cons_succ] at z0 z1 z2 z3 z4 z5 z6 z7
  go_wp2
  exact bodyPost_ret (v := .agg #[.int .u64 (plus8 x y c).a, .int .u64 (plus8 x y c).b, .int .u64 (plus8 x y c).c, .int .u64 (plus8 x y c).d, .int .u64 (plus8 x y c).e, .int .u64 (plus8 x y c).f, .int .u64 (plus8 x y c).g, .int .u64 (plus8 x y c).h]) (by simp [results, Try.results103, go_sem, *]; exact ⟨rfl, rfl, rfl, rfl, rfl, rfl, rfl, rfl⟩) rfl ⟨rfl, ((((((((HI.W).setCell (by first | omega | (simp; done) | (simp; omega)) _).setCell (by first | omega | (simp; done) | (simp; omega)) _).setCell (by first | omega | (simp; done) | (simp; omega)) _).setCell (by first | omega | (simp; done) | (simp; omega)) _).setCell (by first | omega | (simp; done) | (simp; omega)) _).setCell (by first | omega | (simp; done) | (simp; omega)) _).setCell (by first | omega | (simp; done) | (simp; omega)) _).setCell (by first | omega | (simp; done) | (simp; omega)) _⟩
end Go.Proofs.Ytbcjnckejkjfeaa
