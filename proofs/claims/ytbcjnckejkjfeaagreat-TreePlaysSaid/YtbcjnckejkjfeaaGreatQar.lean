/- Integers of 512 bits as eight words: the walks. No condition. Integers of 512 bits as eight words: the walk of a sum. No condition. Integers of 512 bits as eight words: walks, third part. No condition. Integers of 512 bits as eight words: comparing. No condition. Integers of 512 bits as eight words: comparing, signs. No condition. -/
import Derived.Test.YtbcjnckejkjfeaaGreatProg
import Derived.Test.YtbcjnckejkjfeaaGreatQab
import Derived.WalkKit
import Derived.WalkSpells
import Derived.WalkLawsBesides
import Derived.Test.YtbcjnckejkjfeaaGreatQac
import Derived.Lib.Hide
import Derived.Deep.QuietTactic
import Derived.BigQuiet
namespace Go.Proofs.YtbcjnckejkjfeaaGreat
set_option linter.unusedVariables false
set_option linter.unusedSimpArgs false
open Go.RowKit Go.NP
structure L8 where
  a : Int
  b : Int
  c : Int
  d : Int
  e : Int
  f : Int
  g : Int
  h : Int
def isW (n : Int) : Prop := 0 ≤ n ∧ n < 18446744073709551616
structure L8.ok (x : L8) : Prop where
  a : isW x.a
  b : isW x.b
  c : isW x.c
  d : isW x.d
  e : isW x.e
  f : isW x.f
  g : isW x.g
  h : isW x.h
def s64 (x y c : Int) : Int := (x + y + c) % 18446744073709551616
def c64 (x y c : Int) : Int := (x + y + c) / 18446744073709551616
def is01 (c : Int) : Prop := 0 ≤ c ∧ c ≤ 1
theorem c64_is {x y c : Int} (hx : isW x) (hy : isW y) (hc : is01 c) : is01 (c64 x y c) := by
  unfold isW is01 c64 at *; omega
theorem s64_is {x y c : Int} : isW (s64 x y c) := by
  unfold isW s64; omega
theorem cf109 (args : Array Value) (w1 : World) : (callFunc 109 args).run Tryz.prog w1 = .ok (.enter 109 args) w1 := enters Tryz.func109 (by kernel_rfl) (by kernel_rfl) args w1
theorem cf128 (args : Array Value) (w1 : World) : (callFunc 128 args).run Tryz.prog w1 = .ok (.enter 128 args) w1 := enters Tryz.func128 (by kernel_rfl) (by kernel_rfl) args w1
theorem cf131 (args : Array Value) (w1 : World) : (callFunc 131 args).run Tryz.prog w1 = .ok (.enter 131 args) w1 := enters Tryz.func131 (by kernel_rfl) (by kernel_rfl) args w1
theorem cf135 (args : Array Value) (w1 : World) : (callFunc 135 args).run Tryz.prog w1 = .ok (.enter 135 args) w1 := enters Tryz.func135 (by kernel_rfl) (by kernel_rfl) args w1
theorem cf127 (args : Array Value) (w1 : World) : (callFunc 127 args).run Tryz.prog w1 = .ok (.enter 127 args) w1 := enters Tryz.func127 (by kernel_rfl) (by kernel_rfl) args w1
theorem cf119 (args : Array Value) (w1 : World) : (callFunc 119 args).run Tryz.prog w1 = .ok (.enter 119 args) w1 := enters Tryz.func119 (by kernel_rfl) (by kernel_rfl) args w1
theorem cf105 (args : Array Value) (w1 : World) : (callFunc 105 args).run Tryz.prog w1 = .ok (.enter 105 args) w1 := enters Tryz.func105 (by kernel_rfl) (by kernel_rfl) args w1
theorem cf110 (args : Array Value) (w1 : World) : (callFunc 110 args).run Tryz.prog w1 = .ok (.enter 110 args) w1 := enters Tryz.func110 (by kernel_rfl) (by kernel_rfl) args w1
theorem cf88 (args : Array Value) (w1 : World) : (callFunc 88 args).run Tryz.prog w1 = .ok (.enter 88 args) w1 := enters Tryz.func88 (by kernel_rfl) (by kernel_rfl) args w1
theorem cf87 (args : Array Value) (w1 : World) : (callFunc 87 args).run Tryz.prog w1 = .ok (.enter 87 args) w1 := enters Tryz.func87 (by kernel_rfl) (by kernel_rfl) args w1
theorem add64_run (x y c : Int) (hx : isW x) (hy : isW y) (hc : is01 c) (w : World) :
    (callFunc 107 #[.int .u64 x, .int .u64 y, .int .u64 c]).run Tryz.prog w = .ok (.value (.tuple #[.int .u64 (s64 x y c), .int .u64 (c64 x y c)])) w := by
  rw [run_callFunc_extern Tryz.func107 (by kernel_rfl) (by kernel_rfl) (by kernel_rfl) (e := add64Entry) (by kernel_rfl), run_add64 x y c hx.1 hy.1 hc.1 hc.2]
  rfl
def topB (x : Int) : Bool := x / 9223372036854775808 == 1
set_option maxHeartbeats 400000 in
theorem negC (x : L8) (w : World) : RetB Tryz.prog 109 #[.agg #[.int .u64 x.a, .int .u64 x.b, .int .u64 x.c, .int .u64 x.d, .int .u64 x.e, .int .u64 x.f, .int .u64 x.g, .int .u64 x.h]] w (.bool (topB x.h)) := by
  unfold RetB
  have H := Lib.hid (show topB x.h = (x.h / 9223372036854775808 == 1) from rfl)
  go_enter Tryz.func109, Tryz.ntmps109
  go_wp2
  go_ret
  exact ⟨by rw [H.out]; rfl, (Below.refl _ _).alloc (Nat.le_refl _) _⟩
set_option maxHeartbeats 400000 in
theorem adder1C (x y c : Int) (hx : isW x) (hy : isW y) (hc : is01 c) (b : Nat) (w : World) (h0 : w.cell? ⟨b, 0, none⟩ = some (.int .u64 c)) (hf : w.frozen? ⟨b, 0, none⟩ = false) :
    Calls Tryz.prog 135 #[.int .u64 x, .int .u64 y, .pointer (some ⟨b, 0, none⟩)] w fun e w' => e = .returned (.int .u64 (s64 x y c)) ∧ w' = w.setCell ⟨b, 0, none⟩ (.int .u64 (c64 x y c)) := by
  have hr := add64_run x y c hx hy hc
  clear hx hy hc
  go_enter Tryz.func135, Tryz.ntmps135
  go_wp2
  go_ret
  exact ⟨rfl, rfl⟩
set_option maxHeartbeats 400000 in
theorem adderC (c : Int) (w : World) : Calls Tryz.prog 131 #[.int .u64 c] w fun e w' => e = .returned (.func (.func 135) #[] #[.pointer (some ⟨w.heap.size, 0, none⟩)]) ∧ w' = w.alloc (.cells #[.int .u64 c] 121) := by
  go_enter Tryz.func131, Tryz.ntmps131
  go_wp2
  go_ret
  exact ⟨rfl, rfl⟩
def k1 (x y : L8) (c : Int) : Int := c64 x.a y.a c
def k2 (x y : L8) (c : Int) : Int := c64 x.b y.b (k1 x y c)
def k3 (x y : L8) (c : Int) : Int := c64 x.c y.c (k2 x y c)
def k4 (x y : L8) (c : Int) : Int := c64 x.d y.d (k3 x y c)
def k5 (x y : L8) (c : Int) : Int := c64 x.e y.e (k4 x y c)
def k6 (x y : L8) (c : Int) : Int := c64 x.f y.f (k5 x y c)
def k7 (x y : L8) (c : Int) : Int := c64 x.g y.g (k6 x y c)
def k8 (x y : L8) (c : Int) : Int := c64 x.h y.h (k7 x y c)
def plus8 (x y : L8) (c : Int) : L8 := ⟨s64 x.a y.a c, s64 x.b y.b (k1 x y c), s64 x.c y.c (k2 x y c), s64 x.d y.d (k3 x y c), s64 x.e y.e (k4 x y c), s64 x.f y.f (k5 x y c), s64 x.g y.g (k6 x y c), s64 x.h y.h (k7 x y c)⟩
end Go.Proofs.YtbcjnckejkjfeaaGreat
namespace Go.Proofs.YtbcjnckejkjfeaaGreat
set_option linter.unusedVariables false
set_option linter.unusedSimpArgs false
open Go.RowKit Go.NP
/-- What a sum's loop keeps: the two rows, the carry, the answer's row. -/
structure PlusI (W : World) (ba bb br bc : Nat) (la lb : List Value) (c : Int) (w : World) : Prop where
  A : Box w ba la 146
  B : Box w bb lb 146
  R : Box w br [.int .u64 0, .int .u64 0, .int .u64 0, .int .u64 0, .int .u64 0, .int .u64 0, .int .u64 0, .int .u64 0] 146
  K : Box w bc [.int .u64 c] 121
  W : Below W.heap.size W w
theorem PlusI.drew {W : World} {ba bb br bc : Nat} {la lb : List Value} {c : Int} {w : World} (h : PlusI W ba bb br bc la lb c w) : PlusI W ba bb br bc la lb c w.drew := ⟨h.A, h.B, h.R, h.K, h.W.drew⟩
theorem PlusI.carry {W : World} {ba bb br bc : Nat} {la lb : List Value} {c : Int} {w : World} (h : PlusI W ba bb br bc la lb c w) (h1 : ba ≠ bc ∧ bb ≠ bc ∧ br ≠ bc) (h2 : W.heap.size ≤ bc) (c' : Int) :
    PlusI W ba bb br bc la lb c' (w.setCell ⟨bc, 0, none⟩ (.int .u64 c')) :=
  ⟨h.A.other (fun e => h1.1 e.symm) _, h.B.other (fun e => h1.2.1 e.symm) _, h.R.other (fun e => h1.2.2 e.symm) _, h.K.set 0 _, h.W.setCell h2 _⟩
theorem PlusI.put {W : World} {ba bb br bc : Nat} {la lb : List Value} {c : Int} {w : World} (h : PlusI W ba bb br bc la lb c w) (h1 : ba ≠ bc ∧ bb ≠ ba ∧ br ≠ ba) (h2 : W.heap.size ≤ ba) (j : Nat) (v : Value) :
    PlusI W ba bb br bc (la.set j v) lb c (w.setCell ⟨ba, j, none⟩ v) :=
  ⟨h.A.set j _, h.B.other (fun e => h1.2.1 e.symm) _, h.R.other (fun e => h1.2.2 e.symm) _, h.K.other h1.1 _, h.W.setCell h2 _⟩
set_option maxRecDepth 100000 in
set_option maxHeartbeats 4000000 in
theorem plusC (x y : L8) (c : Int) (hx : x.ok) (hy : y.ok) (hc : is01 c) (w : World) : RetB Tryz.prog 127 #[.agg #[.int .u64 x.a, .int .u64 x.b, .int .u64 x.c, .int .u64 x.d, .int .u64 x.e, .int .u64 x.f, .int .u64 x.g, .int .u64 x.h], .agg #[.int .u64 y.a, .int .u64 y.b, .int .u64 y.c, .int .u64 y.d, .int .u64 y.e, .int .u64 y.f, .int .u64 y.g, .int .u64 y.h], .int .u64 c] w (.agg #[.int .u64 (plus8 x y c).a, .int .u64 (plus8 x y c).b, .int .u64 (plus8 x y c).c, .int .u64 (plus8 x y c).d, .int .u64 (plus8 x y c).e, .int .u64 (plus8 x y c).f, .int .u64 (plus8 x y c).g, .int .u64 (plus8 x y c).h]) := by
  have hk0 := hc
  have hk1 : is01 (k1 x y c) := c64_is hx.a hy.a hk0
  have hk2 : is01 (k2 x y c) := c64_is hx.b hy.b hk1
  have hk3 : is01 (k3 x y c) := c64_is hx.c hy.c hk2
  have hk4 : is01 (k4 x y c) := c64_is hx.d hy.d hk3
  have hk5 : is01 (k5 x y c) := c64_is hx.e hy.e hk4
  have hk6 : is01 (k6 x y c) := c64_is hx.f hy.f hk5
  have hk7 : is01 (k7 x y c) := c64_is hx.g hy.g hk6
  have hk8 : is01 (k8 x y c) := c64_is hx.h hy.h hk7
  unfold RetB
  go_enter Tryz.func127, Tryz.ntmps127
  go_wp2_with fail
  refine (adderC c _).mono ?_
  rintro e w' ⟨rfl, rfl⟩
  go_wp2
  have HI : PlusI w w.heap.size (w.heap.size + 1) (w.heap.size + 1 + 1) (w.heap.size + 1 + 1 + 1) [.int .u64 x.a, .int .u64 x.b, .int .u64 x.c, .int .u64 x.d, .int .u64 x.e, .int .u64 x.f, .int .u64 x.g, .int .u64 x.h] [.int .u64 y.a, .int .u64 y.b, .int .u64 y.c, .int .u64 y.d, .int .u64 y.e, .int .u64 y.f, .int .u64 y.g, .int .u64 y.h] c ((((w.alloc (.cells #[.int .u64 x.a, .int .u64 x.b, .int .u64 x.c, .int .u64 x.d, .int .u64 x.e, .int .u64 x.f, .int .u64 x.g, .int .u64 x.h] 146)).alloc (.cells #[.int .u64 y.a, .int .u64 y.b, .int .u64 y.c, .int .u64 y.d, .int .u64 y.e, .int .u64 y.f, .int .u64 y.g, .int .u64 y.h] 146)).alloc (.cells #[.int .u64 0, .int .u64 0, .int .u64 0, .int .u64 0, .int .u64 0, .int .u64 0, .int .u64 0, .int .u64 0] 146)).alloc (.cells #[.int .u64 c] 121)) :=
    ⟨(((Box.new rfl).alloc _).alloc _).alloc _, ((Box.new (by simp)).alloc _).alloc _, (Box.new (by simp)).alloc _, Box.new (by simp), ((((Below.refl _ _).alloc (Nat.le_refl _) _).alloc (by simp) _).alloc (by simp; omega) _).alloc (by simp; omega) _⟩
  revert HI
  generalize (((w.alloc (.cells #[.int .u64 x.a, .int .u64 x.b, .int .u64 x.c, .int .u64 x.d, .int .u64 x.e, .int .u64 x.f, .int .u64 x.g, .int .u64 x.h] 146)).alloc (.cells #[.int .u64 y.a, .int .u64 y.b, .int .u64 y.c, .int .u64 y.d, .int .u64 y.e, .int .u64 y.f, .int .u64 y.g, .int .u64 y.h] 146)).alloc (.cells #[.int .u64 0, .int .u64 0, .int .u64 0, .int .u64 0, .int .u64 0, .int .u64 0, .int .u64 0, .int .u64 0] 146)).alloc (.cells #[.int .u64 c] 121) = W0
  intro HI
  refine wp_loop_rounds 9 ?_
  rw [rounds_succ]
  go_wp2
  refine wp_region_ph [(10, .free [])] (by kernel_rfl) (by kernel_rfl) ?_
  refine Ph.one 8 (PlusI w w.heap.size (w.heap.size + 1) (w.heap.size + 1 + 1) (w.heap.size + 1 + 1 + 1) [.int .u64 x.a, .int .u64 x.b, .int .u64 x.c, .int .u64 x.d, .int .u64 x.e, .int .u64 x.f, .int .u64 x.g, .int .u64 x.h] [.int .u64 y.a, .int .u64 y.b, .int .u64 y.c, .int .u64 y.d, .int .u64 y.e, .int .u64 y.f, .int .u64 y.g, .int .u64 y.h] c) (PlusI w w.heap.size (w.heap.size + 1) (w.heap.size + 1 + 1) (w.heap.size + 1 + 1 + 1) [.int .u64 x.a, .int .u64 x.b, .int .u64 x.c, .int .u64 x.d, .int .u64 x.e, .int .u64 x.f, .int .u64 x.g, .int .u64 x.h] [.int .u64 y.a, .int .u64 y.b, .int .u64 y.c, .int .u64 y.d, .int .u64 y.e, .int .u64 y.f, .int .u64 y.g, .int .u64 y.h] (k1 x y c)) (by rfl) HI.drew ?_
  simp only [List.drop_succ_cons, List.drop_zero, List.take_succ_cons, List.take_zero, Nat.reduceSub, Nat.sub_zero]
  iterate 8 (refine SeqO.val1 (v := ?_) (by rfl) (by rfl) (fun w1 hR => ?_) ?_; rotate_left; (· have a1 := (hR.elim PlusI.A PlusI.A).cell 0; have b1 := (hR.elim PlusI.B PlusI.B).cell 0; simp only [List.getElem?_cons_zero, List.getElem?_cons_succ] at a1 b1; clear hR; go_simp; try with_reducible rfl); simp only [Act.put, List.setIfInBounds_toArray, List.set_cons_zero, List.set_cons_succ])
  refine SeqO.call1 (args := #[.int .u64 x.a, .int .u64 y.a, .pointer (some ⟨w.heap.size + 1 + 1 + 1, 0, none⟩)]) (by rfl) (by rfl) (by rfl) cf135 (by simp [Act.eval]) (fun w1 hR => (adder1C x.a y.a c hx.a hy.a hk0 (w.heap.size + 1 + 1 + 1) w1 (hR.K.cell 0) (hR.K.free 0)).mono fun e w' ⟨he, hw⟩ => ⟨he, hw ▸ hR.carry (by omega) (by omega) _⟩) ?_
  simp only [Act.put, List.setIfInBounds_toArray, List.set_cons_zero, List.set_cons_succ]
  refine SeqO.val1 (v := ?_) (by rfl) (by rfl) (fun w1 hR => ?_) ?_; rotate_left; (· clear hR; go_simp; try with_reducible rfl); simp only [Act.put, List.setIfInBounds_toArray, List.set_cons_zero, List.set_cons_succ]
  refine SeqO.nil1 (by omega) fun w2 HI2 => ?_
  refine Ph.last ?_
  simp only [List.drop_succ_cons, List.drop_zero, List.take_succ_cons, List.take_zero, Nat.reduceSub, Nat.sub_zero]
  have a1 := HI2.A.cell 0; have a2 := HI2.A.free 0
  simp only [List.getElem?_cons_zero, List.getElem?_cons_succ] at a1
  have HI3 : PlusI w w.heap.size (w.heap.size + 1) (w.heap.size + 1 + 1) (w.heap.size + 1 + 1 + 1) [.int .u64 (s64 x.a y.a c), .int .u64 x.b, .int .u64 x.c, .int .u64 x.d, .int .u64 x.e, .int .u64 x.f, .int .u64 x.g, .int .u64 x.h] [.int .u64 y.a, .int .u64 y.b, .int .u64 y.c, .int .u64 y.d, .int .u64 y.e, .int .u64 y.f, .int .u64 y.g, .int .u64 y.h] (k1 x y c) (w2.setCell ⟨w.heap.size, 0, none⟩ (.int .u64 (s64 x.a y.a c))) := HI2.put (by omega) (by omega) 0 _
  clear HI
  go_wp2
  clear a1 a2 HI2
  revert HI3
  generalize w2.setCell ⟨w.heap.size, 0, none⟩ (.int .u64 (s64 x.a y.a c)) = W1
  intro HI
  rw [rounds_succ]
  go_wp2
  refine wp_region_ph [(10, .free [])] (by kernel_rfl) (by kernel_rfl) ?_
  refine Ph.one 8 (PlusI w w.heap.size (w.heap.size + 1) (w.heap.size + 1 + 1) (w.heap.size + 1 + 1 + 1) [.int .u64 (s64 x.a y.a c), .int .u64 x.b, .int .u64 x.c, .int .u64 x.d, .int .u64 x.e, .int .u64 x.f, .int .u64 x.g, .int .u64 x.h] [.int .u64 y.a, .int .u64 y.b, .int .u64 y.c, .int .u64 y.d, .int .u64 y.e, .int .u64 y.f, .int .u64 y.g, .int .u64 y.h] (k1 x y c)) (PlusI w w.heap.size (w.heap.size + 1) (w.heap.size + 1 + 1) (w.heap.size + 1 + 1 + 1) [.int .u64 (s64 x.a y.a c), .int .u64 x.b, .int .u64 x.c, .int .u64 x.d, .int .u64 x.e, .int .u64 x.f, .int .u64 x.g, .int .u64 x.h] [.int .u64 y.a, .int .u64 y.b, .int .u64 y.c, .int .u64 y.d, .int .u64 y.e, .int .u64 y.f, .int .u64 y.g, .int .u64 y.h] (k2 x y c)) (by rfl) HI.drew ?_
  simp only [List.drop_succ_cons, List.drop_zero, List.take_succ_cons, List.take_zero, Nat.reduceSub, Nat.sub_zero]
  iterate 8 (refine SeqO.val1 (v := ?_) (by rfl) (by rfl) (fun w1 hR => ?_) ?_; rotate_left; (· have a1 := (hR.elim PlusI.A PlusI.A).cell 1; have b1 := (hR.elim PlusI.B PlusI.B).cell 1; simp only [List.getElem?_cons_zero, List.getElem?_cons_succ] at a1 b1; clear hR; go_simp; try with_reducible rfl); simp only [Act.put, List.setIfInBounds_toArray, List.set_cons_zero, List.set_cons_succ])
  refine SeqO.call1 (args := #[.int .u64 x.b, .int .u64 y.b, .pointer (some ⟨w.heap.size + 1 + 1 + 1, 0, none⟩)]) (by rfl) (by rfl) (by rfl) cf135 (by simp [Act.eval]) (fun w1 hR => (adder1C x.b y.b (k1 x y c) hx.b hy.b hk1 (w.heap.size + 1 + 1 + 1) w1 (hR.K.cell 0) (hR.K.free 0)).mono fun e w' ⟨he, hw⟩ => ⟨he, hw ▸ hR.carry (by omega) (by omega) _⟩) ?_
  simp only [Act.put, List.setIfInBounds_toArray, List.set_cons_zero, List.set_cons_succ]
  refine SeqO.val1 (v := ?_) (by rfl) (by rfl) (fun w1 hR => ?_) ?_; rotate_left; (· clear hR; go_simp; try with_reducible rfl); simp only [Act.put, List.setIfInBounds_toArray, List.set_cons_zero, List.set_cons_succ]
  refine SeqO.nil1 (by omega) fun w2 HI2 => ?_
  refine Ph.last ?_
  simp only [List.drop_succ_cons, List.drop_zero, List.take_succ_cons, List.take_zero, Nat.reduceSub, Nat.sub_zero]
  have a1 := HI2.A.cell 1; have a2 := HI2.A.free 1
  simp only [List.getElem?_cons_zero, List.getElem?_cons_succ] at a1
  have HI3 : PlusI w w.heap.size (w.heap.size + 1) (w.heap.size + 1 + 1) (w.heap.size + 1 + 1 + 1) [.int .u64 (s64 x.a y.a c), .int .u64 (s64 x.b y.b (k1 x y c)), .int .u64 x.c, .int .u64 x.d, .int .u64 x.e, .int .u64 x.f, .int .u64 x.g, .int .u64 x.h] [.int .u64 y.a, .int .u64 y.b, .int .u64 y.c, .int .u64 y.d, .int .u64 y.e, .int .u64 y.f, .int .u64 y.g, .int .u64 y.h] (k2 x y c) (w2.setCell ⟨w.heap.size, 1, none⟩ (.int .u64 (s64 x.b y.b (k1 x y c)))) := HI2.put (by omega) (by omega) 1 _
  clear HI
  go_wp2
  clear a1 a2 HI2
  revert HI3
  generalize w2.setCell ⟨w.heap.size, 1, none⟩ (.int .u64 (s64 x.b y.b (k1 x y c))) = W2
  intro HI
  rw [rounds_succ]
  go_wp2
  refine wp_region_ph [(10, .free [])] (by kernel_rfl) (by kernel_rfl) ?_
  refine Ph.one 8 (PlusI w w.heap.size (w.heap.size + 1) (w.heap.size + 1 + 1) (w.heap.size + 1 + 1 + 1) [.int .u64 (s64 x.a y.a c), .int .u64 (s64 x.b y.b (k1 x y c)), .int .u64 x.c, .int .u64 x.d, .int .u64 x.e, .int .u64 x.f, .int .u64 x.g, .int .u64 x.h] [.int .u64 y.a, .int .u64 y.b, .int .u64 y.c, .int .u64 y.d, .int .u64 y.e, .int .u64 y.f, .int .u64 y.g, .int .u64 y.h] (k2 x y c)) (PlusI w w.heap.size (w.heap.size + 1) (w.heap.size + 1 + 1) (w.heap.size + 1 + 1 + 1) [.int .u64 (s64 x.a y.a c), .int .u64 (s64 x.b y.b (k1 x y c)), .int .u64 x.c, .int .u64 x.d, .int .u64 x.e, .int .u64 x.f, .int .u64 x.g, .int .u64 x.h] [.int .u64 y.a, .int .u64 y.b, .int .u64 y.c, .int .u64 y.d, .int .u64 y.e, .int .u64 y.f, .int .u64 y.g, .int .u64 y.h] (k3 x y c)) (by rfl) HI.drew ?_
  simp only [List.drop_succ_cons, List.drop_zero, List.take_succ_cons, List.take_zero, Nat.reduceSub, Nat.sub_zero]
  iterate 8 (refine SeqO.val1 (v := ?_) (by rfl) (by rfl) (fun w1 hR => ?_) ?_; rotate_left; (· have a1 := (hR.elim PlusI.A PlusI.A).cell 2; have b1 := (hR.elim PlusI.B PlusI.B).cell 2; simp only [List.getElem?_cons_zero, List.getElem?_cons_succ] at a1 b1; clear hR; go_simp; try with_reducible rfl); simp only [Act.put, List.setIfInBounds_toArray, List.set_cons_zero, List.set_cons_succ])
  refine SeqO.call1 (args := #[.int .u64 x.c, .int .u64 y.c, .pointer (some ⟨w.heap.size + 1 + 1 + 1, 0, none⟩)]) (by rfl) (by rfl) (by rfl) cf135 (by simp [Act.eval]) (fun w1 hR => (adder1C x.c y.c (k2 x y c) hx.c hy.c hk2 (w.heap.size + 1 + 1 + 1) w1 (hR.K.cell 0) (hR.K.free 0)).mono fun e w' ⟨he, hw⟩ => ⟨he, hw ▸ hR.carry (by omega) (by omega) _⟩) ?_
  simp only [Act.put, List.setIfInBounds_toArray, List.set_cons_zero, List.set_cons_succ]
  refine SeqO.val1 (v := ?_) (by rfl) (by rfl) (fun w1 hR => ?_) ?_; rotate_left; (· clear hR; go_simp; try with_reducible rfl); simp only [Act.put, List.setIfInBounds_toArray, List.set_cons_zero, List.set_cons_succ]
  refine SeqO.nil1 (by omega) fun w2 HI2 => ?_
  refine Ph.last ?_
  simp only [List.drop_succ_cons, List.drop_zero, List.take_succ_cons, List.take_zero, Nat.reduceSub, Nat.sub_zero]
  have a1 := HI2.A.cell 2; have a2 := HI2.A.free 2
  simp only [List.getElem?_cons_zero, List.getElem?_cons_succ] at a1
  have HI3 : PlusI w w.heap.size (w.heap.size + 1) (w.heap.size + 1 + 1) (w.heap.size + 1 + 1 + 1) [.int .u64 (s64 x.a y.a c), .int .u64 (s64 x.b y.b (k1 x y c)), .int .u64 (s64 x.c y.c (k2 x y c)), .int .u64 x.d, .int .u64 x.e, .int .u64 x.f, .int .u64 x.g, .int .u64 x.h] [.int .u64 y.a, .int .u64 y.b, .int .u64 y.c, .int .u64 y.d, .int .u64 y.e, .int .u64 y.f, .int .u64 y.g, .int .u64 y.h] (k3 x y c) (w2.setCell ⟨w.heap.size, 2, none⟩ (.int .u64 (s64 x.c y.c (k2 x y c)))) := HI2.put (by omega) (by omega) 2 _
  clear HI
  go_wp2
  clear a1 a2 HI2
  revert HI3
  generalize w2.setCell ⟨w.heap.size, 2, none⟩ (.int .u64 (s64 x.c y.c (k2 x y c))) = W3
  intro HI
  rw [rounds_succ]
  go_wp2
  refine wp_region_ph [(10, .free [])] (by kernel_rfl) (by kernel_rfl) ?_
  refine Ph.one 8 (PlusI w w.heap.size (w.heap.size + 1) (w.heap.size + 1 + 1) (w.heap.size + 1 + 1 + 1) [.int .u64 (s64 x.a y.a c), .int .u64 (s64 x.b y.b (k1 x y c)), .int .u64 (s64 x.c y.c (k2 x y c)), .int .u64 x.d, .int .u64 x.e, .int .u64 x.f, .int .u64 x.g, .int .u64 x.h] [.int .u64 y.a, .int .u64 y.b, .int .u64 y.c, .int .u64 y.d, .int .u64 y.e, .int .u64 y.f, .int .u64 y.g, .int .u64 y.h] (k3 x y c)) (PlusI w w.heap.size (w.heap.size + 1) (w.heap.size + 1 + 1) (w.heap.size + 1 + 1 + 1) [.int .u64 (s64 x.a y.a c), .int .u64 (s64 x.b y.b (k1 x y c)), .int .u64 (s64 x.c y.c (k2 x y c)), .int .u64 x.d, .int .u64 x.e, .int .u64 x.f, .int .u64 x.g, .int .u64 x.h] [.int .u64 y.a, .int .u64 y.b, .int .u64 y.c, .int .u64 y.d, .int .u64 y.e, .int .u64 y.f, .int .u64 y.g, .int .u64 y.h] (k4 x y c)) (by rfl) HI.drew ?_
  simp only [List.drop_succ_cons, List.drop_zero, List.take_succ_cons, List.take_zero, Nat.reduceSub, Nat.sub_zero]
  iterate 8 (refine SeqO.val1 (v := ?_) (by rfl) (by rfl) (fun w1 hR => ?_) ?_; rotate_left; (· have a1 := (hR.elim PlusI.A PlusI.A).cell 3; have b1 := (hR.elim PlusI.B PlusI.B).cell 3; simp only [List.getElem?_cons_zero, List.getElem?_cons_succ] at a1 b1; clear hR; go_simp; try with_reducible rfl); simp only [Act.put, List.setIfInBounds_toArray, List.set_cons_zero, List.set_cons_succ])
  refine SeqO.call1 (args := #[.int .u64 x.d, .int .u64 y.d, .pointer (some ⟨w.heap.size + 1 + 1 + 1, 0, none⟩)]) (by rfl) (by rfl) (by rfl) cf135 (by simp [Act.eval]) (fun w1 hR => (adder1C x.d y.d (k3 x y c) hx.d hy.d hk3 (w.heap.size + 1 + 1 + 1) w1 (hR.K.cell 0) (hR.K.free 0)).mono fun e w' ⟨he, hw⟩ => ⟨he, hw ▸ hR.carry (by omega) (by omega) _⟩) ?_
  simp only [Act.put, List.setIfInBounds_toArray, List.set_cons_zero, List.set_cons_succ]
  refine SeqO.val1 (v := ?_) (by rfl) (by rfl) (fun w1 hR => ?_) ?_; rotate_left; (· clear hR; go_simp; try with_reducible rfl); simp only [Act.put, List.setIfInBounds_toArray, List.set_cons_zero, List.set_cons_succ]
  refine SeqO.nil1 (by omega) fun w2 HI2 => ?_
  refine Ph.last ?_
  simp only [List.drop_succ_cons, List.drop_zero, List.take_succ_cons, List.take_zero, Nat.reduceSub, Nat.sub_zero]
  have a1 := HI2.A.cell 3; have a2 := HI2.A.free 3
  simp only [List.getElem?_cons_zero, List.getElem?_cons_succ] at a1
  have HI3 : PlusI w w.heap.size (w.heap.size + 1) (w.heap.size + 1 + 1) (w.heap.size + 1 + 1 + 1) [.int .u64 (s64 x.a y.a c), .int .u64 (s64 x.b y.b (k1 x y c)), .int .u64 (s64 x.c y.c (k2 x y c)), .int .u64 (s64 x.d y.d (k3 x y c)), .int .u64 x.e, .int .u64 x.f, .int .u64 x.g, .int .u64 x.h] [.int .u64 y.a, .int .u64 y.b, .int .u64 y.c, .int .u64 y.d, .int .u64 y.e, .int .u64 y.f, .int .u64 y.g, .int .u64 y.h] (k4 x y c) (w2.setCell ⟨w.heap.size, 3, none⟩ (.int .u64 (s64 x.d y.d (k3 x y c)))) := HI2.put (by omega) (by omega) 3 _
  clear HI
  go_wp2
  clear a1 a2 HI2
  revert HI3
  generalize w2.setCell ⟨w.heap.size, 3, none⟩ (.int .u64 (s64 x.d y.d (k3 x y c))) = W4
  intro HI
  rw [rounds_succ]
  go_wp2
  refine wp_region_ph [(10, .free [])] (by kernel_rfl) (by kernel_rfl) ?_
  refine Ph.one 8 (PlusI w w.heap.size (w.heap.size + 1) (w.heap.size + 1 + 1) (w.heap.size + 1 + 1 + 1) [.int .u64 (s64 x.a y.a c), .int .u64 (s64 x.b y.b (k1 x y c)), .int .u64 (s64 x.c y.c (k2 x y c)), .int .u64 (s64 x.d y.d (k3 x y c)), .int .u64 x.e, .int .u64 x.f, .int .u64 x.g, .int .u64 x.h] [.int .u64 y.a, .int .u64 y.b, .int .u64 y.c, .int .u64 y.d, .int .u64 y.e, .int .u64 y.f, .int .u64 y.g, .int .u64 y.h] (k4 x y c)) (PlusI w w.heap.size (w.heap.size + 1) (w.heap.size + 1 + 1) (w.heap.size + 1 + 1 + 1) [.int .u64 (s64 x.a y.a c), .int .u64 (s64 x.b y.b (k1 x y c)), .int .u64 (s64 x.c y.c (k2 x y c)), .int .u64 (s64 x.d y.d (k3 x y c)), .int .u64 x.e, .int .u64 x.f, .int .u64 x.g, .int .u64 x.h] [.int .u64 y.a, .int .u64 y.b, .int .u64 y.c, .int .u64 y.d, .int .u64 y.e, .int .u64 y.f, .int .u64 y.g, .int .u64 y.h] (k5 x y c)) (by rfl) HI.drew ?_
  simp only [List.drop_succ_cons, List.drop_zero, List.take_succ_cons, List.take_zero, Nat.reduceSub, Nat.sub_zero]
  iterate 8 (refine SeqO.val1 (v := ?_) (by rfl) (by rfl) (fun w1 hR => ?_) ?_; rotate_left; (· have a1 := (hR.elim PlusI.A PlusI.A).cell 4; have b1 := (hR.elim PlusI.B PlusI.B).cell 4; simp only [List.getElem?_cons_zero, List.getElem?_cons_succ] at a1 b1; clear hR; go_simp; try with_reducible rfl); simp only [Act.put, List.setIfInBounds_toArray, List.set_cons_zero, List.set_cons_succ])
  refine SeqO.call1 (args := #[.int .u64 x.e, .int .u64 y.e, .pointer (some ⟨w.heap.size + 1 + 1 + 1, 0, none⟩)]) (by rfl) (by rfl) (by rfl) cf135 (by simp [Act.eval]) (fun w1 hR => (adder1C x.e y.e (k4 x y c) hx.e hy.e hk4 (w.heap.size + 1 + 1 + 1) w1 (hR.K.cell 0) (hR.K.free 0)).mono fun e w' ⟨he, hw⟩ => ⟨he, hw ▸ hR.carry (by omega) (by omega) _⟩) ?_
  simp only [Act.put, List.setIfInBounds_toArray, List.set_cons_zero, List.set_cons_succ]
  refine SeqO.val1 (v := ?_) (by rfl) (by rfl) (fun w1 hR => ?_) ?_; rotate_left; (· clear hR; go_simp; try with_reducible rfl); simp only [Act.put, List.setIfInBounds_toArray, List.set_cons_zero, List.set_cons_succ]
  refine SeqO.nil1 (by omega) fun w2 HI2 => ?_
  refine Ph.last ?_
  simp only [List.drop_succ_cons, List.drop_zero, List.take_succ_cons, List.take_zero, Nat.reduceSub, Nat.sub_zero]
  have a1 := HI2.A.cell 4; have a2 := HI2.A.free 4
  simp only [List.getElem?_cons_zero, List.getElem?_cons_succ] at a1
  have HI3 : PlusI w w.heap.size (w.heap.size + 1) (w.heap.size + 1 + 1) (w.heap.size + 1 + 1 + 1) [.int .u64 (s64 x.a y.a c), .int .u64 (s64 x.b y.b (k1 x y c)), .int .u64 (s64 x.c y.c (k2 x y c)), .int .u64 (s64 x.d y.d (k3 x y c)), .int .u64 (s64 x.e y.e (k4 x y c)), .int .u64 x.f, .int .u64 x.g, .int .u64 x.h] [.int .u64 y.a, .int .u64 y.b, .int .u64 y.c, .int .u64 y.d, .int .u64 y.e, .int .u64 y.f, .int .u64 y.g, .int .u64 y.h] (k5 x y c) (w2.setCell ⟨w.heap.size, 4, none⟩ (.int .u64 (s64 x.e y.e (k4 x y c)))) := HI2.put (by omega) (by omega) 4 _
  clear HI
  go_wp2
  clear a1 a2 HI2
  revert HI3
  generalize w2.setCell ⟨w.heap.size, 4, none⟩ (.int .u64 (s64 x.e y.e (k4 x y c))) = W5
  intro HI
  rw [rounds_succ]
  go_wp2
  refine wp_region_ph [(10, .free [])] (by kernel_rfl) (by kernel_rfl) ?_
  refine Ph.one 8 (PlusI w w.heap.size (w.heap.size + 1) (w.heap.size + 1 + 1) (w.heap.size + 1 + 1 + 1) [.int .u64 (s64 x.a y.a c), .int .u64 (s64 x.b y.b (k1 x y c)), .int .u64 (s64 x.c y.c (k2 x y c)), .int .u64 (s64 x.d y.d (k3 x y c)), .int .u64 (s64 x.e y.e (k4 x y c)), .int .u64 x.f, .int .u64 x.g, .int .u64 x.h] [.int .u64 y.a, .int .u64 y.b, .int .u64 y.c, .int .u64 y.d, .int .u64 y.e, .int .u64 y.f, .int .u64 y.g, .int .u64 y.h] (k5 x y c)) (PlusI w w.heap.size (w.heap.size + 1) (w.heap.size + 1 + 1) (w.heap.size + 1 + 1 + 1) [.int .u64 (s64 x.a y.a c), .int .u64 (s64 x.b y.b (k1 x y c)), .int .u64 (s64 x.c y.c (k2 x y c)), .int .u64 (s64 x.d y.d (k3 x y c)), .int .u64 (s64 x.e y.e (k4 x y c)), .int .u64 x.f, .int .u64 x.g, .int .u64 x.h] [.int .u64 y.a, .int .u64 y.b, .int .u64 y.c, .int .u64 y.d, .int .u64 y.e, .int .u64 y.f, .int .u64 y.g, .int .u64 y.h] (k6 x y c)) (by rfl) HI.drew ?_
  simp only [List.drop_succ_cons, List.drop_zero, List.take_succ_cons, List.take_zero, Nat.reduceSub, Nat.sub_zero]
  iterate 8 (refine SeqO.val1 (v := ?_) (by rfl) (by rfl) (fun w1 hR => ?_) ?_; rotate_left; (· have a1 := (hR.elim PlusI.A PlusI.A).cell 5; have b1 := (hR.elim PlusI.B PlusI.B).cell 5; simp only [List.getElem?_cons_zero, List.getElem?_cons_succ] at a1 b1; clear hR; go_simp; try with_reducible rfl); simp only [Act.put, List.setIfInBounds_toArray, List.set_cons_zero, List.set_cons_succ])
  refine SeqO.call1 (args := #[.int .u64 x.f, .int .u64 y.f, .pointer (some ⟨w.heap.size + 1 + 1 + 1, 0, none⟩)]) (by rfl) (by rfl) (by rfl) cf135 (by simp [Act.eval]) (fun w1 hR => (adder1C x.f y.f (k5 x y c) hx.f hy.f hk5 (w.heap.size + 1 + 1 + 1) w1 (hR.K.cell 0) (hR.K.free 0)).mono fun e w' ⟨he, hw⟩ => ⟨he, hw ▸ hR.carry (by omega) (by omega) _⟩) ?_
  simp only [Act.put, List.setIfInBounds_toArray, List.set_cons_zero, List.set_cons_succ]
  refine SeqO.val1 (v := ?_) (by rfl) (by rfl) (fun w1 hR => ?_) ?_; rotate_left; (· clear hR; go_simp; try with_reducible rfl); simp only [Act.put, List.setIfInBounds_toArray, List.set_cons_zero, List.set_cons_succ]
  refine SeqO.nil1 (by omega) fun w2 HI2 => ?_
  refine Ph.last ?_
  simp only [List.drop_succ_cons, List.drop_zero, List.take_succ_cons, List.take_zero, Nat.reduceSub, Nat.sub_zero]
  have a1 := HI2.A.cell 5; have a2 := HI2.A.free 5
  simp only [List.getElem?_cons_zero, List.getElem?_cons_succ] at a1
  have HI3 : PlusI w w.heap.size (w.heap.size + 1) (w.heap.size + 1 + 1) (w.heap.size + 1 + 1 + 1) [.int .u64 (s64 x.a y.a c), .int .u64 (s64 x.b y.b (k1 x y c)), .int .u64 (s64 x.c y.c (k2 x y c)), .int .u64 (s64 x.d y.d (k3 x y c)), .int .u64 (s64 x.e y.e (k4 x y c)), .int .u64 (s64 x.f y.f (k5 x y c)), .int .u64 x.g, .int .u64 x.h] [.int .u64 y.a, .int .u64 y.b, .int .u64 y.c, .int .u64 y.d, .int .u64 y.e, .int .u64 y.f, .int .u64 y.g, .int .u64 y.h] (k6 x y c) (w2.setCell ⟨w.heap.size, 5, none⟩ (.int .u64 (s64 x.f y.f (k5 x y c)))) := HI2.put (by omega) (by omega) 5 _
  clear HI
  go_wp2
  clear a1 a2 HI2
  revert HI3
  generalize w2.setCell ⟨w.heap.size, 5, none⟩ (.int .u64 (s64 x.f y.f (k5 x y c))) = W6
  intro HI
  rw [rounds_succ]
  go_wp2
  refine wp_region_ph [(10, .free [])] (by kernel_rfl) (by kernel_rfl) ?_
  refine Ph.one 8 (PlusI w w.heap.size (w.heap.size + 1) (w.heap.size + 1 + 1) (w.heap.size + 1 + 1 + 1) [.int .u64 (s64 x.a y.a c), .int .u64 (s64 x.b y.b (k1 x y c)), .int .u64 (s64 x.c y.c (k2 x y c)), .int .u64 (s64 x.d y.d (k3 x y c)), .int .u64 (s64 x.e y.e (k4 x y c)), .int .u64 (s64 x.f y.f (k5 x y c)), .int .u64 x.g, .int .u64 x.h] [.int .u64 y.a, .int .u64 y.b, .int .u64 y.c, .int .u64 y.d, .int .u64 y.e, .int .u64 y.f, .int .u64 y.g, .int .u64 y.h] (k6 x y c)) (PlusI w w.heap.size (w.heap.size + 1) (w.heap.size + 1 + 1) (w.heap.size + 1 + 1 + 1) [.int .u64 (s64 x.a y.a c), .int .u64 (s64 x.b y.b (k1 x y c)), .int .u64 (s64 x.c y.c (k2 x y c)), .int .u64 (s64 x.d y.d (k3 x y c)), .int .u64 (s64 x.e y.e (k4 x y c)), .int .u64 (s64 x.f y.f (k5 x y c)), .int .u64 x.g, .int .u64 x.h] [.int .u64 y.a, .int .u64 y.b, .int .u64 y.c, .int .u64 y.d, .int .u64 y.e, .int .u64 y.f, .int .u64 y.g, .int .u64 y.h] (k7 x y c)) (by rfl) HI.drew ?_
  simp only [List.drop_succ_cons, List.drop_zero, List.take_succ_cons, List.take_zero, Nat.reduceSub, Nat.sub_zero]
  iterate 8 (refine SeqO.val1 (v := ?_) (by rfl) (by rfl) (fun w1 hR => ?_) ?_; rotate_left; (· have a1 := (hR.elim PlusI.A PlusI.A).cell 6; have b1 := (hR.elim PlusI.B PlusI.B).cell 6; simp only [List.getElem?_cons_zero, List.getElem?_cons_succ] at a1 b1; clear hR; go_simp; try with_reducible rfl); simp only [Act.put, List.setIfInBounds_toArray, List.set_cons_zero, List.set_cons_succ])
  refine SeqO.call1 (args := #[.int .u64 x.g, .int .u64 y.g, .pointer (some ⟨w.heap.size + 1 + 1 + 1, 0, none⟩)]) (by rfl) (by rfl) (by rfl) cf135 (by simp [Act.eval]) (fun w1 hR => (adder1C x.g y.g (k6 x y c) hx.g hy.g hk6 (w.heap.size + 1 + 1 + 1) w1 (hR.K.cell 0) (hR.K.free 0)).mono fun e w' ⟨he, hw⟩ => ⟨he, hw ▸ hR.carry (by omega) (by omega) _⟩) ?_
  simp only [Act.put, List.setIfInBounds_toArray, List.set_cons_zero, List.set_cons_succ]
  refine SeqO.val1 (v := ?_) (by rfl) (by rfl) (fun w1 hR => ?_) ?_; rotate_left; (· clear hR; go_simp; try with_reducible rfl); simp only [Act.put, List.setIfInBounds_toArray, List.set_cons_zero, List.set_cons_succ]
  refine SeqO.nil1 (by omega) fun w2 HI2 => ?_
  refine Ph.last ?_
  simp only [List.drop_succ_cons, List.drop_zero, List.take_succ_cons, List.take_zero, Nat.reduceSub, Nat.sub_zero]
  have a1 := HI2.A.cell 6; have a2 := HI2.A.free 6
  simp only [List.getElem?_cons_zero, List.getElem?_cons_succ] at a1
  have HI3 : PlusI w w.heap.size (w.heap.size + 1) (w.heap.size + 1 + 1) (w.heap.size + 1 + 1 + 1) [.int .u64 (s64 x.a y.a c), .int .u64 (s64 x.b y.b (k1 x y c)), .int .u64 (s64 x.c y.c (k2 x y c)), .int .u64 (s64 x.d y.d (k3 x y c)), .int .u64 (s64 x.e y.e (k4 x y c)), .int .u64 (s64 x.f y.f (k5 x y c)), .int .u64 (s64 x.g y.g (k6 x y c)), .int .u64 x.h] [.int .u64 y.a, .int .u64 y.b, .int .u64 y.c, .int .u64 y.d, .int .u64 y.e, .int .u64 y.f, .int .u64 y.g, .int .u64 y.h] (k7 x y c) (w2.setCell ⟨w.heap.size, 6, none⟩ (.int .u64 (s64 x.g y.g (k6 x y c)))) := HI2.put (by omega) (by omega) 6 _
  clear HI
  go_wp2
  clear a1 a2 HI2
  revert HI3
  generalize w2.setCell ⟨w.heap.size, 6, none⟩ (.int .u64 (s64 x.g y.g (k6 x y c))) = W7
  intro HI
  rw [rounds_succ]
  go_wp2
  refine wp_region_ph [(10, .free [])] (by kernel_rfl) (by kernel_rfl) ?_
  refine Ph.one 8 (PlusI w w.heap.size (w.heap.size + 1) (w.heap.size + 1 + 1) (w.heap.size + 1 + 1 + 1) [.int .u64 (s64 x.a y.a c), .int .u64 (s64 x.b y.b (k1 x y c)), .int .u64 (s64 x.c y.c (k2 x y c)), .int .u64 (s64 x.d y.d (k3 x y c)), .int .u64 (s64 x.e y.e (k4 x y c)), .int .u64 (s64 x.f y.f (k5 x y c)), .int .u64 (s64 x.g y.g (k6 x y c)), .int .u64 x.h] [.int .u64 y.a, .int .u64 y.b, .int .u64 y.c, .int .u64 y.d, .int .u64 y.e, .int .u64 y.f, .int .u64 y.g, .int .u64 y.h] (k7 x y c)) (PlusI w w.heap.size (w.heap.size + 1) (w.heap.size + 1 + 1) (w.heap.size + 1 + 1 + 1) [.int .u64 (s64 x.a y.a c), .int .u64 (s64 x.b y.b (k1 x y c)), .int .u64 (s64 x.c y.c (k2 x y c)), .int .u64 (s64 x.d y.d (k3 x y c)), .int .u64 (s64 x.e y.e (k4 x y c)), .int .u64 (s64 x.f y.f (k5 x y c)), .int .u64 (s64 x.g y.g (k6 x y c)), .int .u64 x.h] [.int .u64 y.a, .int .u64 y.b, .int .u64 y.c, .int .u64 y.d, .int .u64 y.e, .int .u64 y.f, .int .u64 y.g, .int .u64 y.h] (k8 x y c)) (by rfl) HI.drew ?_
  simp only [List.drop_succ_cons, List.drop_zero, List.take_succ_cons, List.take_zero, Nat.reduceSub, Nat.sub_zero]
  iterate 8 (refine SeqO.val1 (v := ?_) (by rfl) (by rfl) (fun w1 hR => ?_) ?_; rotate_left; (· have a1 := (hR.elim PlusI.A PlusI.A).cell 7; have b1 := (hR.elim PlusI.B PlusI.B).cell 7; simp only [List.getElem?_cons_zero, List.getElem?_cons_succ] at a1 b1; clear hR; go_simp; try with_reducible rfl); simp only [Act.put, List.setIfInBounds_toArray, List.set_cons_zero, List.set_cons_succ])
  refine SeqO.call1 (args := #[.int .u64 x.h, .int .u64 y.h, .pointer (some ⟨w.heap.size + 1 + 1 + 1, 0, none⟩)]) (by rfl) (by rfl) (by rfl) cf135 (by simp [Act.eval]) (fun w1 hR => (adder1C x.h y.h (k7 x y c) hx.h hy.h hk7 (w.heap.size + 1 + 1 + 1) w1 (hR.K.cell 0) (hR.K.free 0)).mono fun e w' ⟨he, hw⟩ => ⟨he, hw ▸ hR.carry (by omega) (by omega) _⟩) ?_
  simp only [Act.put, List.setIfInBounds_toArray, List.set_cons_zero, List.set_cons_succ]
  refine SeqO.val1 (v := ?_) (by rfl) (by rfl) (fun w1 hR => ?_) ?_; rotate_left; (· clear hR; go_simp; try with_reducible rfl); simp only [Act.put, List.setIfInBounds_toArray, List.set_cons_zero, List.set_cons_succ]
  refine SeqO.nil1 (by omega) fun w2 HI2 => ?_
  refine Ph.last ?_
  simp only [List.drop_succ_cons, List.drop_zero, List.take_succ_cons, List.take_zero, Nat.reduceSub, Nat.sub_zero]
  have a1 := HI2.A.cell 7; have a2 := HI2.A.free 7
  simp only [List.getElem?_cons_zero, List.getElem?_cons_succ] at a1
  have HI3 : PlusI w w.heap.size (w.heap.size + 1) (w.heap.size + 1 + 1) (w.heap.size + 1 + 1 + 1) [.int .u64 (s64 x.a y.a c), .int .u64 (s64 x.b y.b (k1 x y c)), .int .u64 (s64 x.c y.c (k2 x y c)), .int .u64 (s64 x.d y.d (k3 x y c)), .int .u64 (s64 x.e y.e (k4 x y c)), .int .u64 (s64 x.f y.f (k5 x y c)), .int .u64 (s64 x.g y.g (k6 x y c)), .int .u64 (s64 x.h y.h (k7 x y c))] [.int .u64 y.a, .int .u64 y.b, .int .u64 y.c, .int .u64 y.d, .int .u64 y.e, .int .u64 y.f, .int .u64 y.g, .int .u64 y.h] (k8 x y c) (w2.setCell ⟨w.heap.size, 7, none⟩ (.int .u64 (s64 x.h y.h (k7 x y c)))) := HI2.put (by omega) (by omega) 7 _
  clear HI
  go_wp2
  clear a1 a2 HI2
  revert HI3
  generalize w2.setCell ⟨w.heap.size, 7, none⟩ (.int .u64 (s64 x.h y.h (k7 x y c))) = W8
  intro HI
  rw [rounds_succ]
  have q0 := (HI.A).cell 0; have q1 := (HI.A).cell 1; have q2 := (HI.A).cell 2; have q3 := (HI.A).cell 3; have q4 := (HI.A).cell 4; have q5 := (HI.A).cell 5; have q6 := (HI.A).cell 6; have q7 := (HI.A).cell 7; have qf := (HI.A).free
  simp only [List.getElem?_cons_zero, List.getElem?_cons_succ] at q0 q1 q2 q3 q4 q5 q6 q7
  have z0 := (HI.R).cell 0; have z1 := (HI.R).cell 1; have z2 := (HI.R).cell 2; have z3 := (HI.R).cell 3; have z4 := (HI.R).cell 4; have z5 := (HI.R).cell 5; have z6 := (HI.R).cell 6; have z7 := (HI.R).cell 7; have zf := (HI.R).free
  simp only [List.getElem?_cons_zero, List.getElem?_cons_succ] at z0 z1 z2 z3 z4 z5 z6 z7
  go_wp2
  exact bodyPost_ret (v := .agg #[.int .u64 (plus8 x y c).a, .int .u64 (plus8 x y c).b, .int .u64 (plus8 x y c).c, .int .u64 (plus8 x y c).d, .int .u64 (plus8 x y c).e, .int .u64 (plus8 x y c).f, .int .u64 (plus8 x y c).g, .int .u64 (plus8 x y c).h]) (by simp [results, Tryz.results127, go_sem, *]; exact ⟨rfl, rfl, rfl, rfl, rfl, rfl, rfl, rfl⟩) rfl ⟨rfl, ((((((((HI.W).setCell (by first | omega | (simp; done) | (simp; omega)) _).setCell (by first | omega | (simp; done) | (simp; omega)) _).setCell (by first | omega | (simp; done) | (simp; omega)) _).setCell (by first | omega | (simp; done) | (simp; omega)) _).setCell (by first | omega | (simp; done) | (simp; omega)) _).setCell (by first | omega | (simp; done) | (simp; omega)) _).setCell (by first | omega | (simp; done) | (simp; omega)) _).setCell (by first | omega | (simp; done) | (simp; omega)) _⟩
end Go.Proofs.YtbcjnckejkjfeaaGreat
namespace Go.Proofs.YtbcjnckejkjfeaaGreat
set_option linter.unusedVariables false
set_option linter.unusedSimpArgs false
open Go.RowKit Go.NP
def nt (a : Int) : Int := bits .xor .u64 IntKind.u64.max a
theorem nt_eq {a : Int} (h : isW a) : nt a = 18446744073709551615 - a := by
  obtain ⟨h0, h1⟩ := h
  have hm : IntKind.u64.max = 18446744073709551615 := by decide
  unfold nt
  rw [hm, u64_xor _ _ (by omega) (by omega) h0 h1]
  obtain ⟨n, rfl⟩ := Int.eq_ofNat_of_zero_le h0
  have hn : n < 2 ^ 64 := by omega
  have hb : ((BitVec.allOnes 64) ^^^ (BitVec.ofNat 64 n)).toNat = (~~~ (BitVec.ofNat 64 n)).toNat := by rw [BitVec.allOnes_xor]
  rw [BitVec.toNat_xor, BitVec.toNat_not, BitVec.toNat_allOnes, BitVec.toNat_ofNat, Nat.mod_eq_of_lt hn] at hb
  have e1 : (18446744073709551615 : Int).toNat = 2 ^ 64 - 1 := by decide
  rw [e1, Int.toNat_natCast, hb]
  omega
theorem nt_is {a : Int} (h : isW a) : isW (nt a) := by rw [nt_eq h]; unfold isW at *; omega
def not8 (x : L8) : L8 := ⟨nt x.a, nt x.b, nt x.c, nt x.d, nt x.e, nt x.f, nt x.g, nt x.h⟩
theorem not8_ok {x : L8} (h : x.ok) : (not8 x).ok := ⟨nt_is h.a, nt_is h.b, nt_is h.c, nt_is h.d, nt_is h.e, nt_is h.f, nt_is h.g, nt_is h.h⟩
def z8 : L8 := ⟨0, 0, 0, 0, 0, 0, 0, 0⟩
theorem isW0 : isW 0 := ⟨by decide, by decide⟩
theorem z8_ok : z8.ok := ⟨isW0, isW0, isW0, isW0, isW0, isW0, isW0, isW0⟩
theorem plus8_ok {x y : L8} {c : Int} : (plus8 x y c).ok := ⟨s64_is, s64_is, s64_is, s64_is, s64_is, s64_is, s64_is, s64_is⟩
def minus8 (x : L8) : L8 := plus8 (not8 x) z8 1
def size8 (x : L8) : L8 := if topB x.h = true then minus8 x else x
def lo (n : Int) : Int := IntKind.u64.wrap n
def sg (n : Int) : Int := IntKind.u64.wrap (n / 9223372036854775808)
def of8 (n : Int) : L8 := ⟨lo n, sg n, sg n, sg n, sg n, sg n, sg n, sg n⟩
set_option maxRecDepth 100000 in
set_option maxHeartbeats 2000000 in
theorem notC (x : L8) (w : World) : RetB Tryz.prog 128 #[.agg #[.int .u64 x.a, .int .u64 x.b, .int .u64 x.c, .int .u64 x.d, .int .u64 x.e, .int .u64 x.f, .int .u64 x.g, .int .u64 x.h]] w (.agg #[.int .u64 (not8 x).a, .int .u64 (not8 x).b, .int .u64 (not8 x).c, .int .u64 (not8 x).d, .int .u64 (not8 x).e, .int .u64 (not8 x).f, .int .u64 (not8 x).g, .int .u64 (not8 x).h]) := by
  unfold RetB
  go_enter Tryz.func128, Tryz.ntmps128
  go_wp2
  refine wp_loop_rounds 9 ?_
  rw [rounds_succ]; go_wp2
  rw [rounds_succ]; go_wp2
  rw [rounds_succ]; go_wp2
  rw [rounds_succ]; go_wp2
  rw [rounds_succ]; go_wp2
  rw [rounds_succ]; go_wp2
  rw [rounds_succ]; go_wp2
  rw [rounds_succ]; go_wp2
  rw [rounds_succ]; go_wp2
  exact bodyPost_ret (v := .agg #[.int .u64 (not8 x).a, .int .u64 (not8 x).b, .int .u64 (not8 x).c, .int .u64 (not8 x).d, .int .u64 (not8 x).e, .int .u64 (not8 x).f, .int .u64 (not8 x).g, .int .u64 (not8 x).h]) (by simp [results, Tryz.results128, go_sem]; exact ⟨rfl, rfl, rfl, rfl, rfl, rfl, rfl, rfl⟩) rfl ⟨rfl, ((Below.refl _ _).alloc (Nat.le_refl _) _).alloc (by simp) _⟩
set_option maxRecDepth 100000 in
set_option maxHeartbeats 2000000 in
theorem ofWC (x : Int) (w : World) : RetB Tryz.prog 87 #[.int .i64 x] w (.agg #[.int .u64 (of8 x).a, .int .u64 (of8 x).b, .int .u64 (of8 x).c, .int .u64 (of8 x).d, .int .u64 (of8 x).e, .int .u64 (of8 x).f, .int .u64 (of8 x).g, .int .u64 (of8 x).h]) := by
  unfold RetB
  go_enter Tryz.func87, Tryz.ntmps87
  go_wp2
  refine wp_loop_rounds 9 ?_
  rw [rounds_succ]; go_wp2
  rw [rounds_succ]; go_wp2
  rw [rounds_succ]; go_wp2
  rw [rounds_succ]; go_wp2
  rw [rounds_succ]; go_wp2
  rw [rounds_succ]; go_wp2
  rw [rounds_succ]; go_wp2
  rw [rounds_succ]; go_wp2
  rw [rounds_succ]; go_wp2
  exact bodyPost_ret (v := .agg #[.int .u64 (of8 x).a, .int .u64 (of8 x).b, .int .u64 (of8 x).c, .int .u64 (of8 x).d, .int .u64 (of8 x).e, .int .u64 (of8 x).f, .int .u64 (of8 x).g, .int .u64 (of8 x).h]) (by simp [results, Tryz.results87, go_sem]; exact ⟨rfl, rfl, rfl, rfl, rfl, rfl, rfl, rfl⟩) rfl ⟨rfl, ((Below.refl _ _).alloc (Nat.le_refl _) _).alloc (by simp) _⟩
set_option maxRecDepth 100000 in
set_option maxHeartbeats 2000000 in
theorem minusC (x : L8) (hx : x.ok) (w : World) : RetB Tryz.prog 119 #[.agg #[.int .u64 x.a, .int .u64 x.b, .int .u64 x.c, .int .u64 x.d, .int .u64 x.e, .int .u64 x.f, .int .u64 x.g, .int .u64 x.h]] w (.agg #[.int .u64 (minus8 x).a, .int .u64 (minus8 x).b, .int .u64 (minus8 x).c, .int .u64 (minus8 x).d, .int .u64 (minus8 x).e, .int .u64 (minus8 x).f, .int .u64 (minus8 x).g, .int .u64 (minus8 x).h]) := by
  unfold RetB
  go_enter Tryz.func119, Tryz.ntmps119
  go_wp2_with fail
  refine (notC x _).mono ?_
  rintro e w1 ⟨rfl, hS⟩
  have hW : Below w.heap.size w w1 := (((Below.refl _ _).alloc (Nat.le_refl _) _).alloc (by simp) _).trans (hS.mono (by simp; omega))
  have hR : Box w1 (w.heap.size + 1) _ _ := (Box.new (by simp)).step hS
  have HR := Lib.hid hR; clear hR
  go_wp2_with fail
  refine (plusC (not8 x) z8 1 (not8_ok hx) z8_ok ⟨by decide, by decide⟩ _).mono ?_
  rintro e w2 ⟨rfl, hS2⟩
  have hR2 := HR.out.step hS2
  have hz := HR.out.lt
  have z0 := (hR2).cell 0; have z1 := (hR2).cell 1; have z2 := (hR2).cell 2; have z3 := (hR2).cell 3; have z4 := (hR2).cell 4; have z5 := (hR2).cell 5; have z6 := (hR2).cell 6; have z7 := (hR2).cell 7; have zf := (hR2).free
  simp only [List.getElem?_cons_zero, List.getElem?_cons_succ] at z0 z1 z2 z3 z4 z5 z6 z7
  go_wp2
  exact bodyPost_ret (v := .agg #[.int .u64 (minus8 x).a, .int .u64 (minus8 x).b, .int .u64 (minus8 x).c, .int .u64 (minus8 x).d, .int .u64 (minus8 x).e, .int .u64 (minus8 x).f, .int .u64 (minus8 x).g, .int .u64 (minus8 x).h]) (by simp [results, Tryz.results119, go_sem, *]; exact ⟨rfl, rfl, rfl, rfl, rfl, rfl, rfl, rfl⟩) rfl ⟨rfl, ((((((((hW.trans (hS2.mono (by omega))).setCell (by first | omega | (simp; done) | (simp; omega)) _).setCell (by first | omega | (simp; done) | (simp; omega)) _).setCell (by first | omega | (simp; done) | (simp; omega)) _).setCell (by first | omega | (simp; done) | (simp; omega)) _).setCell (by first | omega | (simp; done) | (simp; omega)) _).setCell (by first | omega | (simp; done) | (simp; omega)) _).setCell (by first | omega | (simp; done) | (simp; omega)) _).setCell (by first | omega | (simp; done) | (simp; omega)) _⟩
set_option maxRecDepth 100000 in
set_option maxHeartbeats 2000000 in
theorem size8C (x : L8) (hx : x.ok) (w : World) : RetB Tryz.prog 105 #[.agg #[.int .u64 x.a, .int .u64 x.b, .int .u64 x.c, .int .u64 x.d, .int .u64 x.e, .int .u64 x.f, .int .u64 x.g, .int .u64 x.h]] w (.agg #[.int .u64 (size8 x).a, .int .u64 (size8 x).b, .int .u64 (size8 x).c, .int .u64 (size8 x).d, .int .u64 (size8 x).e, .int .u64 (size8 x).f, .int .u64 (size8 x).g, .int .u64 (size8 x).h]) := by
  unfold RetB
  cases ht : topB x.h with
  | true =>
    have e8 := Lib.hid (show size8 x = minus8 x from if_pos ht)
    have HT := Lib.hid ht
    clear ht
    go_enter Tryz.func105, Tryz.ntmps105
    go_wp2_with fail
    refine ((negC x _).eq (by rw [HT.out])).mono ?_
    rintro e w1 ⟨rfl, hS⟩
    have hW : Below w.heap.size w w1 := (((Below.refl _ _).alloc (Nat.le_refl _) _).alloc (by simp) _).trans (hS.mono (by simp; omega))
    have hR : Box w1 (w.heap.size + 1) _ _ := (Box.new (by simp)).step hS
    have hA : Box w1 w.heap.size [.int .u64 x.a, .int .u64 x.b, .int .u64 x.c, .int .u64 x.d, .int .u64 x.e, .int .u64 x.f, .int .u64 x.g, .int .u64 x.h] 146 := ((Box.new rfl).alloc _).step hS
    have q0 := (hA).cell 0; have q1 := (hA).cell 1; have q2 := (hA).cell 2; have q3 := (hA).cell 3; have q4 := (hA).cell 4; have q5 := (hA).cell 5; have q6 := (hA).cell 6; have q7 := (hA).cell 7; have qf := (hA).free
    simp only [List.getElem?_cons_zero, List.getElem?_cons_succ] at q0 q1 q2 q3 q4 q5 q6 q7
    have HR := Lib.hid hR; clear hR hA
    go_wp2_with fail
    refine (minusC x hx _).mono ?_
    rintro e w2 ⟨rfl, hS2⟩
    clear q0 q1 q2 q3 q4 q5 q6 q7 qf
    have hR2 := HR.out.step hS2
    have hz := HR.out.lt
    have z0 := (hR2).cell 0; have z1 := (hR2).cell 1; have z2 := (hR2).cell 2; have z3 := (hR2).cell 3; have z4 := (hR2).cell 4; have z5 := (hR2).cell 5; have z6 := (hR2).cell 6; have z7 := (hR2).cell 7; have zf := (hR2).free
    simp only [List.getElem?_cons_zero, List.getElem?_cons_succ] at z0 z1 z2 z3 z4 z5 z6 z7
    go_wp2
    rw [e8.out]
    exact bodyPost_ret (v := .agg #[.int .u64 (minus8 x).a, .int .u64 (minus8 x).b, .int .u64 (minus8 x).c, .int .u64 (minus8 x).d, .int .u64 (minus8 x).e, .int .u64 (minus8 x).f, .int .u64 (minus8 x).g, .int .u64 (minus8 x).h]) (by simp [results, Tryz.results105, go_sem, *]) rfl ⟨rfl, ((((((((hW.trans (hS2.mono (by omega))).setCell (by first | omega | (simp; done) | (simp; omega)) _).setCell (by first | omega | (simp; done) | (simp; omega)) _).setCell (by first | omega | (simp; done) | (simp; omega)) _).setCell (by first | omega | (simp; done) | (simp; omega)) _).setCell (by first | omega | (simp; done) | (simp; omega)) _).setCell (by first | omega | (simp; done) | (simp; omega)) _).setCell (by first | omega | (simp; done) | (simp; omega)) _).setCell (by first | omega | (simp; done) | (simp; omega)) _⟩
  | false =>
    have e8 := Lib.hid (show size8 x = x from if_neg (by rw [ht]; simp))
    have HT := Lib.hid ht
    clear ht
    go_enter Tryz.func105, Tryz.ntmps105
    go_wp2_with fail
    refine ((negC x _).eq (by rw [HT.out])).mono ?_
    rintro e w1 ⟨rfl, hS⟩
    have hW : Below w.heap.size w w1 := (((Below.refl _ _).alloc (Nat.le_refl _) _).alloc (by simp) _).trans (hS.mono (by simp; omega))
    have hR : Box w1 (w.heap.size + 1) _ _ := (Box.new (by simp)).step hS
    have hA : Box w1 w.heap.size [.int .u64 x.a, .int .u64 x.b, .int .u64 x.c, .int .u64 x.d, .int .u64 x.e, .int .u64 x.f, .int .u64 x.g, .int .u64 x.h] 146 := ((Box.new rfl).alloc _).step hS
    have q0 := (hA).cell 0; have q1 := (hA).cell 1; have q2 := (hA).cell 2; have q3 := (hA).cell 3; have q4 := (hA).cell 4; have q5 := (hA).cell 5; have q6 := (hA).cell 6; have q7 := (hA).cell 7; have qf := (hA).free
    simp only [List.getElem?_cons_zero, List.getElem?_cons_succ] at q0 q1 q2 q3 q4 q5 q6 q7
    have z0 := (hR).cell 0; have z1 := (hR).cell 1; have z2 := (hR).cell 2; have z3 := (hR).cell 3; have z4 := (hR).cell 4; have z5 := (hR).cell 5; have z6 := (hR).cell 6; have z7 := (hR).cell 7; have zf := (hR).free
    simp only [List.getElem?_cons_zero, List.getElem?_cons_succ] at z0 z1 z2 z3 z4 z5 z6 z7
    go_wp2
    rw [e8.out]
    exact bodyPost_ret (v := .agg #[.int .u64 x.a, .int .u64 x.b, .int .u64 x.c, .int .u64 x.d, .int .u64 x.e, .int .u64 x.f, .int .u64 x.g, .int .u64 x.h]) (by simp [results, Tryz.results105, go_sem, *]) rfl ⟨rfl, ((((((((hW).setCell (by first | omega | (simp; done) | (simp; omega)) _).setCell (by first | omega | (simp; done) | (simp; omega)) _).setCell (by first | omega | (simp; done) | (simp; omega)) _).setCell (by first | omega | (simp; done) | (simp; omega)) _).setCell (by first | omega | (simp; done) | (simp; omega)) _).setCell (by first | omega | (simp; done) | (simp; omega)) _).setCell (by first | omega | (simp; done) | (simp; omega)) _).setCell (by first | omega | (simp; done) | (simp; omega)) _⟩
end Go.Proofs.YtbcjnckejkjfeaaGreat
namespace Go.Proofs.YtbcjnckejkjfeaaGreat
set_option linter.unusedVariables false
set_option linter.unusedSimpArgs false
open Go.RowKit Go.NP
def step8 (a b r : Int) : Int := if a = b then r else if a < b then -1 else 1
theorem step8_eq {a b r : Int} (h : a = b) : step8 a b r = r := if_pos h
theorem step8_lt {a b r : Int} (h : ¬ a = b) (h' : a < b) : step8 a b r = -1 := by unfold step8; rw [if_neg h, if_pos h']
theorem step8_gt {a b r : Int} (h : ¬ a = b) (h' : b ≤ a) : step8 a b r = 1 := by unfold step8; rw [if_neg h, if_neg (by omega)]
def above8 (x y : L8) : Int := step8 x.h y.h (step8 x.g y.g (step8 x.f y.f (step8 x.e y.e (step8 x.d y.d (step8 x.c y.c (step8 x.b y.b (step8 x.a y.a 0)))))))
theorem retI {k : IntKind} {a b : Int} (h : a = b) : Ending.returned (.int k a) = .returned (.int k b) := by rw [h]
theorem bne_t {a b : Int} (h : ¬ a = b) : (a != b) = true := by simpa using h
theorem bne_f {a b : Int} (h : a = b) : (a != b) = false := by simpa using h
set_option maxRecDepth 100000 in
set_option maxHeartbeats 4000000 in
theorem aboveC (x y : L8) (w : World) : RetB Tryz.prog 110 #[.agg #[.int .u64 x.a, .int .u64 x.b, .int .u64 x.c, .int .u64 x.d, .int .u64 x.e, .int .u64 x.f, .int .u64 x.g, .int .u64 x.h], .agg #[.int .u64 y.a, .int .u64 y.b, .int .u64 y.c, .int .u64 y.d, .int .u64 y.e, .int .u64 y.f, .int .u64 y.g, .int .u64 y.h]] w (.int .i64 (above8 x y)) := by
  generalize hr : above8 x y = r
  have HR := Lib.hid hr
  clear hr
  unfold RetB
  by_cases e0 : x.h = y.h
  · have b0 := bne_f e0; have E0 := Lib.hid e0; clear e0
    by_cases e1 : x.g = y.g
    · have b1 := bne_f e1; have E1 := Lib.hid e1; clear e1
      by_cases e2 : x.f = y.f
      · have b2 := bne_f e2; have E2 := Lib.hid e2; clear e2
        by_cases e3 : x.e = y.e
        · have b3 := bne_f e3; have E3 := Lib.hid e3; clear e3
          by_cases e4 : x.d = y.d
          · have b4 := bne_f e4; have E4 := Lib.hid e4; clear e4
            by_cases e5 : x.c = y.c
            · have b5 := bne_f e5; have E5 := Lib.hid e5; clear e5
              by_cases e6 : x.b = y.b
              · have b6 := bne_f e6; have E6 := Lib.hid e6; clear e6
                by_cases e7 : x.a = y.a
                · have b7 := bne_f e7; have E7 := Lib.hid e7; clear e7
                  go_enter Tryz.func110, Tryz.ntmps110
                  go_wp2
                  refine wp_loop_rounds 9 ?_
                  rw [rounds_succ]; go_wp2
                  go_quiet (fail)
                  go_wp2
                  rw [rounds_succ]; go_wp2
                  go_quiet (fail)
                  go_wp2
                  rw [rounds_succ]; go_wp2
                  go_quiet (fail)
                  go_wp2
                  rw [rounds_succ]; go_wp2
                  go_quiet (fail)
                  go_wp2
                  rw [rounds_succ]; go_wp2
                  go_quiet (fail)
                  go_wp2
                  rw [rounds_succ]; go_wp2
                  go_quiet (fail)
                  go_wp2
                  rw [rounds_succ]; go_wp2
                  go_quiet (fail)
                  go_wp2
                  rw [rounds_succ]; go_wp2
                  go_quiet (fail)
                  go_wp2
                  rw [rounds_succ]; go_wp2
                  go_ret
                  exact ⟨retI (by have := HR.out; rw [← this]; unfold above8; rw [step8_eq E0.out, step8_eq E1.out, step8_eq E2.out, step8_eq E3.out, step8_eq E4.out, step8_eq E5.out, step8_eq E6.out, step8_eq E7.out]), (((Below.refl _ _).alloc (Nat.le_refl _) _).alloc (by simp) _).trans ⟨rfl, rfl, rfl, by simp, fun _ _ => rfl⟩⟩
                · have b7 := bne_t e7; have E7 := Lib.hid e7; clear e7
                  by_cases l7 : x.a < y.a
                  · have L7 := Lib.hid l7; have c7 : decide (x.a < y.a) = true := decide_eq_true l7; clear l7
                    go_enter Tryz.func110, Tryz.ntmps110
                    go_wp2
                    refine wp_loop_rounds 9 ?_
                    rw [rounds_succ]; go_wp2
                    go_quiet (fail)
                    go_wp2
                    rw [rounds_succ]; go_wp2
                    go_quiet (fail)
                    go_wp2
                    rw [rounds_succ]; go_wp2
                    go_quiet (fail)
                    go_wp2
                    rw [rounds_succ]; go_wp2
                    go_quiet (fail)
                    go_wp2
                    rw [rounds_succ]; go_wp2
                    go_quiet (fail)
                    go_wp2
                    rw [rounds_succ]; go_wp2
                    go_quiet (fail)
                    go_wp2
                    rw [rounds_succ]; go_wp2
                    go_quiet (fail)
                    go_wp2
                    rw [rounds_succ]; go_wp2
                    go_quiet (fail)
                    go_wp2
                    go_quiet (fail)
                    go_wp2
                    go_ret
                    exact ⟨retI (by have := HR.out; rw [← this]; unfold above8; rw [step8_eq E0.out, step8_eq E1.out, step8_eq E2.out, step8_eq E3.out, step8_eq E4.out, step8_eq E5.out, step8_eq E6.out, step8_lt E7.out L7.out]), (((Below.refl _ _).alloc (Nat.le_refl _) _).alloc (by simp) _).trans ⟨rfl, rfl, rfl, by simp, fun _ _ => rfl⟩⟩
                  · have m7 : y.a ≤ x.a := (by omega); have L7 := Lib.hid m7; have c7 : decide (x.a < y.a) = false := decide_eq_false l7; clear l7
                    clear m7
                    go_enter Tryz.func110, Tryz.ntmps110
                    go_wp2
                    refine wp_loop_rounds 9 ?_
                    rw [rounds_succ]; go_wp2
                    go_quiet (fail)
                    go_wp2
                    rw [rounds_succ]; go_wp2
                    go_quiet (fail)
                    go_wp2
                    rw [rounds_succ]; go_wp2
                    go_quiet (fail)
                    go_wp2
                    rw [rounds_succ]; go_wp2
                    go_quiet (fail)
                    go_wp2
                    rw [rounds_succ]; go_wp2
                    go_quiet (fail)
                    go_wp2
                    rw [rounds_succ]; go_wp2
                    go_quiet (fail)
                    go_wp2
                    rw [rounds_succ]; go_wp2
                    go_quiet (fail)
                    go_wp2
                    rw [rounds_succ]; go_wp2
                    go_quiet (fail)
                    go_wp2
                    go_quiet (fail)
                    go_wp2
                    go_ret
                    exact ⟨retI (by have := HR.out; rw [← this]; unfold above8; rw [step8_eq E0.out, step8_eq E1.out, step8_eq E2.out, step8_eq E3.out, step8_eq E4.out, step8_eq E5.out, step8_eq E6.out, step8_gt E7.out L7.out]), (((Below.refl _ _).alloc (Nat.le_refl _) _).alloc (by simp) _).trans ⟨rfl, rfl, rfl, by simp, fun _ _ => rfl⟩⟩
              · have b6 := bne_t e6; have E6 := Lib.hid e6; clear e6
                by_cases l6 : x.b < y.b
                · have L6 := Lib.hid l6; have c6 : decide (x.b < y.b) = true := decide_eq_true l6; clear l6
                  go_enter Tryz.func110, Tryz.ntmps110
                  go_wp2
                  refine wp_loop_rounds 9 ?_
                  rw [rounds_succ]; go_wp2
                  go_quiet (fail)
                  go_wp2
                  rw [rounds_succ]; go_wp2
                  go_quiet (fail)
                  go_wp2
                  rw [rounds_succ]; go_wp2
                  go_quiet (fail)
                  go_wp2
                  rw [rounds_succ]; go_wp2
                  go_quiet (fail)
                  go_wp2
                  rw [rounds_succ]; go_wp2
                  go_quiet (fail)
                  go_wp2
                  rw [rounds_succ]; go_wp2
                  go_quiet (fail)
                  go_wp2
                  rw [rounds_succ]; go_wp2
                  go_quiet (fail)
                  go_wp2
                  go_quiet (fail)
                  go_wp2
                  go_ret
                  exact ⟨retI (by have := HR.out; rw [← this]; unfold above8; rw [step8_eq E0.out, step8_eq E1.out, step8_eq E2.out, step8_eq E3.out, step8_eq E4.out, step8_eq E5.out, step8_lt E6.out L6.out]), (((Below.refl _ _).alloc (Nat.le_refl _) _).alloc (by simp) _).trans ⟨rfl, rfl, rfl, by simp, fun _ _ => rfl⟩⟩
                · have m6 : y.b ≤ x.b := (by omega); have L6 := Lib.hid m6; have c6 : decide (x.b < y.b) = false := decide_eq_false l6; clear l6
                  clear m6
                  go_enter Tryz.func110, Tryz.ntmps110
                  go_wp2
                  refine wp_loop_rounds 9 ?_
                  rw [rounds_succ]; go_wp2
                  go_quiet (fail)
                  go_wp2
                  rw [rounds_succ]; go_wp2
                  go_quiet (fail)
                  go_wp2
                  rw [rounds_succ]; go_wp2
                  go_quiet (fail)
                  go_wp2
                  rw [rounds_succ]; go_wp2
                  go_quiet (fail)
                  go_wp2
                  rw [rounds_succ]; go_wp2
                  go_quiet (fail)
                  go_wp2
                  rw [rounds_succ]; go_wp2
                  go_quiet (fail)
                  go_wp2
                  rw [rounds_succ]; go_wp2
                  go_quiet (fail)
                  go_wp2
                  go_quiet (fail)
                  go_wp2
                  go_ret
                  exact ⟨retI (by have := HR.out; rw [← this]; unfold above8; rw [step8_eq E0.out, step8_eq E1.out, step8_eq E2.out, step8_eq E3.out, step8_eq E4.out, step8_eq E5.out, step8_gt E6.out L6.out]), (((Below.refl _ _).alloc (Nat.le_refl _) _).alloc (by simp) _).trans ⟨rfl, rfl, rfl, by simp, fun _ _ => rfl⟩⟩
            · have b5 := bne_t e5; have E5 := Lib.hid e5; clear e5
              by_cases l5 : x.c < y.c
              · have L5 := Lib.hid l5; have c5 : decide (x.c < y.c) = true := decide_eq_true l5; clear l5
                go_enter Tryz.func110, Tryz.ntmps110
                go_wp2
                refine wp_loop_rounds 9 ?_
                rw [rounds_succ]; go_wp2
                go_quiet (fail)
                go_wp2
                rw [rounds_succ]; go_wp2
                go_quiet (fail)
                go_wp2
                rw [rounds_succ]; go_wp2
                go_quiet (fail)
                go_wp2
                rw [rounds_succ]; go_wp2
                go_quiet (fail)
                go_wp2
                rw [rounds_succ]; go_wp2
                go_quiet (fail)
                go_wp2
                rw [rounds_succ]; go_wp2
                go_quiet (fail)
                go_wp2
                go_quiet (fail)
                go_wp2
                go_ret
                exact ⟨retI (by have := HR.out; rw [← this]; unfold above8; rw [step8_eq E0.out, step8_eq E1.out, step8_eq E2.out, step8_eq E3.out, step8_eq E4.out, step8_lt E5.out L5.out]), (((Below.refl _ _).alloc (Nat.le_refl _) _).alloc (by simp) _).trans ⟨rfl, rfl, rfl, by simp, fun _ _ => rfl⟩⟩
              · have m5 : y.c ≤ x.c := (by omega); have L5 := Lib.hid m5; have c5 : decide (x.c < y.c) = false := decide_eq_false l5; clear l5
                clear m5
                go_enter Tryz.func110, Tryz.ntmps110
                go_wp2
                refine wp_loop_rounds 9 ?_
                rw [rounds_succ]; go_wp2
                go_quiet (fail)
                go_wp2
                rw [rounds_succ]; go_wp2
                go_quiet (fail)
                go_wp2
                rw [rounds_succ]; go_wp2
                go_quiet (fail)
                go_wp2
                rw [rounds_succ]; go_wp2
                go_quiet (fail)
                go_wp2
                rw [rounds_succ]; go_wp2
                go_quiet (fail)
                go_wp2
                rw [rounds_succ]; go_wp2
                go_quiet (fail)
                go_wp2
                go_quiet (fail)
                go_wp2
                go_ret
                exact ⟨retI (by have := HR.out; rw [← this]; unfold above8; rw [step8_eq E0.out, step8_eq E1.out, step8_eq E2.out, step8_eq E3.out, step8_eq E4.out, step8_gt E5.out L5.out]), (((Below.refl _ _).alloc (Nat.le_refl _) _).alloc (by simp) _).trans ⟨rfl, rfl, rfl, by simp, fun _ _ => rfl⟩⟩
          · have b4 := bne_t e4; have E4 := Lib.hid e4; clear e4
            by_cases l4 : x.d < y.d
            · have L4 := Lib.hid l4; have c4 : decide (x.d < y.d) = true := decide_eq_true l4; clear l4
              go_enter Tryz.func110, Tryz.ntmps110
              go_wp2
              refine wp_loop_rounds 9 ?_
              rw [rounds_succ]; go_wp2
              go_quiet (fail)
              go_wp2
              rw [rounds_succ]; go_wp2
              go_quiet (fail)
              go_wp2
              rw [rounds_succ]; go_wp2
              go_quiet (fail)
              go_wp2
              rw [rounds_succ]; go_wp2
              go_quiet (fail)
              go_wp2
              rw [rounds_succ]; go_wp2
              go_quiet (fail)
              go_wp2
              go_quiet (fail)
              go_wp2
              go_ret
              exact ⟨retI (by have := HR.out; rw [← this]; unfold above8; rw [step8_eq E0.out, step8_eq E1.out, step8_eq E2.out, step8_eq E3.out, step8_lt E4.out L4.out]), (((Below.refl _ _).alloc (Nat.le_refl _) _).alloc (by simp) _).trans ⟨rfl, rfl, rfl, by simp, fun _ _ => rfl⟩⟩
            · have m4 : y.d ≤ x.d := (by omega); have L4 := Lib.hid m4; have c4 : decide (x.d < y.d) = false := decide_eq_false l4; clear l4
              clear m4
              go_enter Tryz.func110, Tryz.ntmps110
              go_wp2
              refine wp_loop_rounds 9 ?_
              rw [rounds_succ]; go_wp2
              go_quiet (fail)
              go_wp2
              rw [rounds_succ]; go_wp2
              go_quiet (fail)
              go_wp2
              rw [rounds_succ]; go_wp2
              go_quiet (fail)
              go_wp2
              rw [rounds_succ]; go_wp2
              go_quiet (fail)
              go_wp2
              rw [rounds_succ]; go_wp2
              go_quiet (fail)
              go_wp2
              go_quiet (fail)
              go_wp2
              go_ret
              exact ⟨retI (by have := HR.out; rw [← this]; unfold above8; rw [step8_eq E0.out, step8_eq E1.out, step8_eq E2.out, step8_eq E3.out, step8_gt E4.out L4.out]), (((Below.refl _ _).alloc (Nat.le_refl _) _).alloc (by simp) _).trans ⟨rfl, rfl, rfl, by simp, fun _ _ => rfl⟩⟩
        · have b3 := bne_t e3; have E3 := Lib.hid e3; clear e3
          by_cases l3 : x.e < y.e
          · have L3 := Lib.hid l3; have c3 : decide (x.e < y.e) = true := decide_eq_true l3; clear l3
            go_enter Tryz.func110, Tryz.ntmps110
            go_wp2
            refine wp_loop_rounds 9 ?_
            rw [rounds_succ]; go_wp2
            go_quiet (fail)
            go_wp2
            rw [rounds_succ]; go_wp2
            go_quiet (fail)
            go_wp2
            rw [rounds_succ]; go_wp2
            go_quiet (fail)
            go_wp2
            rw [rounds_succ]; go_wp2
            go_quiet (fail)
            go_wp2
            go_quiet (fail)
            go_wp2
            go_ret
            exact ⟨retI (by have := HR.out; rw [← this]; unfold above8; rw [step8_eq E0.out, step8_eq E1.out, step8_eq E2.out, step8_lt E3.out L3.out]), (((Below.refl _ _).alloc (Nat.le_refl _) _).alloc (by simp) _).trans ⟨rfl, rfl, rfl, by simp, fun _ _ => rfl⟩⟩
          · have m3 : y.e ≤ x.e := (by omega); have L3 := Lib.hid m3; have c3 : decide (x.e < y.e) = false := decide_eq_false l3; clear l3
            clear m3
            go_enter Tryz.func110, Tryz.ntmps110
            go_wp2
            refine wp_loop_rounds 9 ?_
            rw [rounds_succ]; go_wp2
            go_quiet (fail)
            go_wp2
            rw [rounds_succ]; go_wp2
            go_quiet (fail)
            go_wp2
            rw [rounds_succ]; go_wp2
            go_quiet (fail)
            go_wp2
            rw [rounds_succ]; go_wp2
            go_quiet (fail)
            go_wp2
            go_quiet (fail)
            go_wp2
            go_ret
            exact ⟨retI (by have := HR.out; rw [← this]; unfold above8; rw [step8_eq E0.out, step8_eq E1.out, step8_eq E2.out, step8_gt E3.out L3.out]), (((Below.refl _ _).alloc (Nat.le_refl _) _).alloc (by simp) _).trans ⟨rfl, rfl, rfl, by simp, fun _ _ => rfl⟩⟩
      · have b2 := bne_t e2; have E2 := Lib.hid e2; clear e2
        by_cases l2 : x.f < y.f
        · have L2 := Lib.hid l2; have c2 : decide (x.f < y.f) = true := decide_eq_true l2; clear l2
          go_enter Tryz.func110, Tryz.ntmps110
          go_wp2
          refine wp_loop_rounds 9 ?_
          rw [rounds_succ]; go_wp2
          go_quiet (fail)
          go_wp2
          rw [rounds_succ]; go_wp2
          go_quiet (fail)
          go_wp2
          rw [rounds_succ]; go_wp2
          go_quiet (fail)
          go_wp2
          go_quiet (fail)
          go_wp2
          go_ret
          exact ⟨retI (by have := HR.out; rw [← this]; unfold above8; rw [step8_eq E0.out, step8_eq E1.out, step8_lt E2.out L2.out]), (((Below.refl _ _).alloc (Nat.le_refl _) _).alloc (by simp) _).trans ⟨rfl, rfl, rfl, by simp, fun _ _ => rfl⟩⟩
        · have m2 : y.f ≤ x.f := (by omega); have L2 := Lib.hid m2; have c2 : decide (x.f < y.f) = false := decide_eq_false l2; clear l2
          clear m2
          go_enter Tryz.func110, Tryz.ntmps110
          go_wp2
          refine wp_loop_rounds 9 ?_
          rw [rounds_succ]; go_wp2
          go_quiet (fail)
          go_wp2
          rw [rounds_succ]; go_wp2
          go_quiet (fail)
          go_wp2
          rw [rounds_succ]; go_wp2
          go_quiet (fail)
          go_wp2
          go_quiet (fail)
          go_wp2
          go_ret
          exact ⟨retI (by have := HR.out; rw [← this]; unfold above8; rw [step8_eq E0.out, step8_eq E1.out, step8_gt E2.out L2.out]), (((Below.refl _ _).alloc (Nat.le_refl _) _).alloc (by simp) _).trans ⟨rfl, rfl, rfl, by simp, fun _ _ => rfl⟩⟩
    · have b1 := bne_t e1; have E1 := Lib.hid e1; clear e1
      by_cases l1 : x.g < y.g
      · have L1 := Lib.hid l1; have c1 : decide (x.g < y.g) = true := decide_eq_true l1; clear l1
        go_enter Tryz.func110, Tryz.ntmps110
        go_wp2
        refine wp_loop_rounds 9 ?_
        rw [rounds_succ]; go_wp2
        go_quiet (fail)
        go_wp2
        rw [rounds_succ]; go_wp2
        go_quiet (fail)
        go_wp2
        go_quiet (fail)
        go_wp2
        go_ret
        exact ⟨retI (by have := HR.out; rw [← this]; unfold above8; rw [step8_eq E0.out, step8_lt E1.out L1.out]), (((Below.refl _ _).alloc (Nat.le_refl _) _).alloc (by simp) _).trans ⟨rfl, rfl, rfl, by simp, fun _ _ => rfl⟩⟩
      · have m1 : y.g ≤ x.g := (by omega); have L1 := Lib.hid m1; have c1 : decide (x.g < y.g) = false := decide_eq_false l1; clear l1
        clear m1
        go_enter Tryz.func110, Tryz.ntmps110
        go_wp2
        refine wp_loop_rounds 9 ?_
        rw [rounds_succ]; go_wp2
        go_quiet (fail)
        go_wp2
        rw [rounds_succ]; go_wp2
        go_quiet (fail)
        go_wp2
        go_quiet (fail)
        go_wp2
        go_ret
        exact ⟨retI (by have := HR.out; rw [← this]; unfold above8; rw [step8_eq E0.out, step8_gt E1.out L1.out]), (((Below.refl _ _).alloc (Nat.le_refl _) _).alloc (by simp) _).trans ⟨rfl, rfl, rfl, by simp, fun _ _ => rfl⟩⟩
  · have b0 := bne_t e0; have E0 := Lib.hid e0; clear e0
    by_cases l0 : x.h < y.h
    · have L0 := Lib.hid l0; have c0 : decide (x.h < y.h) = true := decide_eq_true l0; clear l0
      go_enter Tryz.func110, Tryz.ntmps110
      go_wp2
      refine wp_loop_rounds 9 ?_
      rw [rounds_succ]; go_wp2
      go_quiet (fail)
      go_wp2
      go_quiet (fail)
      go_wp2
      go_ret
      exact ⟨retI (by have := HR.out; rw [← this]; unfold above8; rw [step8_lt E0.out L0.out]), (((Below.refl _ _).alloc (Nat.le_refl _) _).alloc (by simp) _).trans ⟨rfl, rfl, rfl, by simp, fun _ _ => rfl⟩⟩
    · have m0 : y.h ≤ x.h := (by omega); have L0 := Lib.hid m0; have c0 : decide (x.h < y.h) = false := decide_eq_false l0; clear l0
      clear m0
      go_enter Tryz.func110, Tryz.ntmps110
      go_wp2
      refine wp_loop_rounds 9 ?_
      rw [rounds_succ]; go_wp2
      go_quiet (fail)
      go_wp2
      go_quiet (fail)
      go_wp2
      go_ret
      exact ⟨retI (by have := HR.out; rw [← this]; unfold above8; rw [step8_gt E0.out L0.out]), (((Below.refl _ _).alloc (Nat.le_refl _) _).alloc (by simp) _).trans ⟨rfl, rfl, rfl, by simp, fun _ _ => rfl⟩⟩
end Go.Proofs.YtbcjnckejkjfeaaGreat
namespace Go.Proofs.YtbcjnckejkjfeaaGreat
set_option linter.unusedVariables false
set_option linter.unusedSimpArgs false
open Go.RowKit Go.NP
theorem cf108 (args : Array Value) (w1 : World) : (callFunc 108 args).run Tryz.prog w1 = .ok (.enter 108 args) w1 := enters Tryz.func108 (by kernel_rfl) (by kernel_rfl) args w1
def cmp8 (x y : L8) : Int := if topB x.h = topB y.h then above8 x y else if topB x.h = true then -1 else 1
set_option maxRecDepth 100000 in
set_option maxHeartbeats 2000000 in
theorem cmpC (x y : L8) (w : World) : RetB Tryz.prog 88 #[.agg #[.int .u64 x.a, .int .u64 x.b, .int .u64 x.c, .int .u64 x.d, .int .u64 x.e, .int .u64 x.f, .int .u64 x.g, .int .u64 x.h], .agg #[.int .u64 y.a, .int .u64 y.b, .int .u64 y.c, .int .u64 y.d, .int .u64 y.e, .int .u64 y.f, .int .u64 y.g, .int .u64 y.h]] w (.int .i64 (cmp8 x y)) := by
  unfold RetB
  have hx : topB x.h = true ∨ topB x.h = false := by cases topB x.h <;> simp
  have hy : topB y.h = true ∨ topB y.h = false := by cases topB y.h <;> simp
  rcases hx with hx | hx <;> rcases hy with hy | hy
  · have H := Lib.hid (show cmp8 x y = above8 x y by unfold cmp8; rw [hx, hy]; rfl)
    have HX := Lib.hid hx; have HY := Lib.hid hy; clear hx hy
    go_enter Tryz.func88, Tryz.ntmps88
    go_wp2
    refine wp_region_ph [(6, .free [])] (by kernel_rfl) (by kernel_rfl) ?_
    refine Ph.belowd ?_
    simp only [List.drop_succ_cons, List.drop_zero, List.take_succ_cons, List.take_zero, Nat.reduceSub, Nat.sub_zero]
    iterate 2 (refine SeqO.val (v := ?_) (by rfl) (by rfl) (fun w1 hS => ?_) ?_; rotate_left; (· obtain ⟨hc, hcf⟩ := bcell hS; go_simp; try with_reducible rfl); simp only [Act.put, List.setIfInBounds_toArray, List.set_cons_zero, List.set_cons_succ])
    refine SeqO.callv (by rfl) (by rfl) (by rfl) cf109 (by simp [Act.eval]) (fun w1 hS => (negC x w1).eq (by rw [HX.out])) ?_
    simp only [Act.put, List.setIfInBounds_toArray, List.set_cons_zero, List.set_cons_succ]
    iterate 2 (refine SeqO.val (v := ?_) (by rfl) (by rfl) (fun w1 hS => ?_) ?_; rotate_left; (· obtain ⟨hc, hcf⟩ := bcell hS; go_simp; try with_reducible rfl); simp only [Act.put, List.setIfInBounds_toArray, List.set_cons_zero, List.set_cons_succ])
    refine SeqO.callv (by rfl) (by rfl) (by rfl) cf109 (by simp [Act.eval]) (fun w1 hS => (negC y w1).eq (by rw [HY.out])) ?_
    simp only [Act.put, List.setIfInBounds_toArray, List.set_cons_zero, List.set_cons_succ]
    refine SeqO.nil0 fun w1 hS => ?_
    have hX : Box w1 w.heap.size [.int .u64 x.a, .int .u64 x.b, .int .u64 x.c, .int .u64 x.d, .int .u64 x.e, .int .u64 x.f, .int .u64 x.g, .int .u64 x.h] 127 := ((Box.new rfl).alloc _).step hS
    have hY : Box w1 (w.heap.size + 1) [.int .u64 y.a, .int .u64 y.b, .int .u64 y.c, .int .u64 y.d, .int .u64 y.e, .int .u64 y.f, .int .u64 y.g, .int .u64 y.h] 127 := (Box.new (by simp)).step hS
    have hW : Below w.heap.size w w1 := (((Below.refl _ _).alloc (Nat.le_refl _) _).alloc (by simp) _).trans (hS.mono (by simp; omega))
    have p0 := (hX).cell 0; have p1 := (hX).cell 1; have p2 := (hX).cell 2; have p3 := (hX).cell 3; have p4 := (hX).cell 4; have p5 := (hX).cell 5; have p6 := (hX).cell 6; have p7 := (hX).cell 7; have pf := (hX).free
    simp only [List.getElem?_cons_zero, List.getElem?_cons_succ] at p0 p1 p2 p3 p4 p5 p6 p7
    have q0 := (hY).cell 0; have q1 := (hY).cell 1; have q2 := (hY).cell 2; have q3 := (hY).cell 3; have q4 := (hY).cell 4; have q5 := (hY).cell 5; have q6 := (hY).cell 6; have q7 := (hY).cell 7; have qf := (hY).free
    simp only [List.getElem?_cons_zero, List.getElem?_cons_succ] at q0 q1 q2 q3 q4 q5 q6 q7
    refine Ph.last ?_
    simp only [List.drop_succ_cons, List.drop_zero, List.take_succ_cons, List.take_zero, Nat.reduceSub, Nat.sub_zero]
    clear hX hY
    go_wp2_with fail
    refine ((aboveC x y _).eq (by rw [← H.out])).mono ?_
    rintro e w2 ⟨rfl, hS2⟩
    go_wp2
    go_ret
    exact ⟨rfl, hW.trans (hS2.mono hW.size)⟩
  · have H := Lib.hid (show cmp8 x y = -1 by unfold cmp8; rw [hx, hy]; rfl)
    have HX := Lib.hid hx; have HY := Lib.hid hy; clear hx hy
    go_enter Tryz.func88, Tryz.ntmps88
    go_wp2
    refine wp_region_ph [(6, .free [])] (by kernel_rfl) (by kernel_rfl) ?_
    refine Ph.belowd ?_
    simp only [List.drop_succ_cons, List.drop_zero, List.take_succ_cons, List.take_zero, Nat.reduceSub, Nat.sub_zero]
    iterate 2 (refine SeqO.val (v := ?_) (by rfl) (by rfl) (fun w1 hS => ?_) ?_; rotate_left; (· obtain ⟨hc, hcf⟩ := bcell hS; go_simp; try with_reducible rfl); simp only [Act.put, List.setIfInBounds_toArray, List.set_cons_zero, List.set_cons_succ])
    refine SeqO.callv (by rfl) (by rfl) (by rfl) cf109 (by simp [Act.eval]) (fun w1 hS => (negC x w1).eq (by rw [HX.out])) ?_
    simp only [Act.put, List.setIfInBounds_toArray, List.set_cons_zero, List.set_cons_succ]
    iterate 2 (refine SeqO.val (v := ?_) (by rfl) (by rfl) (fun w1 hS => ?_) ?_; rotate_left; (· obtain ⟨hc, hcf⟩ := bcell hS; go_simp; try with_reducible rfl); simp only [Act.put, List.setIfInBounds_toArray, List.set_cons_zero, List.set_cons_succ])
    refine SeqO.callv (by rfl) (by rfl) (by rfl) cf109 (by simp [Act.eval]) (fun w1 hS => (negC y w1).eq (by rw [HY.out])) ?_
    simp only [Act.put, List.setIfInBounds_toArray, List.set_cons_zero, List.set_cons_succ]
    refine SeqO.nil0 fun w1 hS => ?_
    have hX : Box w1 w.heap.size [.int .u64 x.a, .int .u64 x.b, .int .u64 x.c, .int .u64 x.d, .int .u64 x.e, .int .u64 x.f, .int .u64 x.g, .int .u64 x.h] 127 := ((Box.new rfl).alloc _).step hS
    have hY : Box w1 (w.heap.size + 1) [.int .u64 y.a, .int .u64 y.b, .int .u64 y.c, .int .u64 y.d, .int .u64 y.e, .int .u64 y.f, .int .u64 y.g, .int .u64 y.h] 127 := (Box.new (by simp)).step hS
    have hW : Below w.heap.size w w1 := (((Below.refl _ _).alloc (Nat.le_refl _) _).alloc (by simp) _).trans (hS.mono (by simp; omega))
    have p0 := (hX).cell 0; have p1 := (hX).cell 1; have p2 := (hX).cell 2; have p3 := (hX).cell 3; have p4 := (hX).cell 4; have p5 := (hX).cell 5; have p6 := (hX).cell 6; have p7 := (hX).cell 7; have pf := (hX).free
    simp only [List.getElem?_cons_zero, List.getElem?_cons_succ] at p0 p1 p2 p3 p4 p5 p6 p7
    have q0 := (hY).cell 0; have q1 := (hY).cell 1; have q2 := (hY).cell 2; have q3 := (hY).cell 3; have q4 := (hY).cell 4; have q5 := (hY).cell 5; have q6 := (hY).cell 6; have q7 := (hY).cell 7; have qf := (hY).free
    simp only [List.getElem?_cons_zero, List.getElem?_cons_succ] at q0 q1 q2 q3 q4 q5 q6 q7
    refine Ph.last ?_
    simp only [List.drop_succ_cons, List.drop_zero, List.take_succ_cons, List.take_zero, Nat.reduceSub, Nat.sub_zero]
    clear hX hY
    go_wp2
    go_ret
    exact ⟨retI (by rw [H.out]), hW⟩
  · have H := Lib.hid (show cmp8 x y = 1 by unfold cmp8; rw [hx, hy]; rfl)
    have HX := Lib.hid hx; have HY := Lib.hid hy; clear hx hy
    go_enter Tryz.func88, Tryz.ntmps88
    go_wp2
    refine wp_region_ph [(6, .free [])] (by kernel_rfl) (by kernel_rfl) ?_
    refine Ph.belowd ?_
    simp only [List.drop_succ_cons, List.drop_zero, List.take_succ_cons, List.take_zero, Nat.reduceSub, Nat.sub_zero]
    iterate 2 (refine SeqO.val (v := ?_) (by rfl) (by rfl) (fun w1 hS => ?_) ?_; rotate_left; (· obtain ⟨hc, hcf⟩ := bcell hS; go_simp; try with_reducible rfl); simp only [Act.put, List.setIfInBounds_toArray, List.set_cons_zero, List.set_cons_succ])
    refine SeqO.callv (by rfl) (by rfl) (by rfl) cf109 (by simp [Act.eval]) (fun w1 hS => (negC x w1).eq (by rw [HX.out])) ?_
    simp only [Act.put, List.setIfInBounds_toArray, List.set_cons_zero, List.set_cons_succ]
    iterate 2 (refine SeqO.val (v := ?_) (by rfl) (by rfl) (fun w1 hS => ?_) ?_; rotate_left; (· obtain ⟨hc, hcf⟩ := bcell hS; go_simp; try with_reducible rfl); simp only [Act.put, List.setIfInBounds_toArray, List.set_cons_zero, List.set_cons_succ])
    refine SeqO.callv (by rfl) (by rfl) (by rfl) cf109 (by simp [Act.eval]) (fun w1 hS => (negC y w1).eq (by rw [HY.out])) ?_
    simp only [Act.put, List.setIfInBounds_toArray, List.set_cons_zero, List.set_cons_succ]
    refine SeqO.nil0 fun w1 hS => ?_
    have hX : Box w1 w.heap.size [.int .u64 x.a, .int .u64 x.b, .int .u64 x.c, .int .u64 x.d, .int .u64 x.e, .int .u64 x.f, .int .u64 x.g, .int .u64 x.h] 127 := ((Box.new rfl).alloc _).step hS
    have hY : Box w1 (w.heap.size + 1) [.int .u64 y.a, .int .u64 y.b, .int .u64 y.c, .int .u64 y.d, .int .u64 y.e, .int .u64 y.f, .int .u64 y.g, .int .u64 y.h] 127 := (Box.new (by simp)).step hS
    have hW : Below w.heap.size w w1 := (((Below.refl _ _).alloc (Nat.le_refl _) _).alloc (by simp) _).trans (hS.mono (by simp; omega))
    have p0 := (hX).cell 0; have p1 := (hX).cell 1; have p2 := (hX).cell 2; have p3 := (hX).cell 3; have p4 := (hX).cell 4; have p5 := (hX).cell 5; have p6 := (hX).cell 6; have p7 := (hX).cell 7; have pf := (hX).free
    simp only [List.getElem?_cons_zero, List.getElem?_cons_succ] at p0 p1 p2 p3 p4 p5 p6 p7
    have q0 := (hY).cell 0; have q1 := (hY).cell 1; have q2 := (hY).cell 2; have q3 := (hY).cell 3; have q4 := (hY).cell 4; have q5 := (hY).cell 5; have q6 := (hY).cell 6; have q7 := (hY).cell 7; have qf := (hY).free
    simp only [List.getElem?_cons_zero, List.getElem?_cons_succ] at q0 q1 q2 q3 q4 q5 q6 q7
    refine Ph.last ?_
    simp only [List.drop_succ_cons, List.drop_zero, List.take_succ_cons, List.take_zero, Nat.reduceSub, Nat.sub_zero]
    clear hX hY
    go_wp2
    go_ret
    exact ⟨retI (by rw [H.out]), hW⟩
  · have H := Lib.hid (show cmp8 x y = above8 x y by unfold cmp8; rw [hx, hy]; rfl)
    have HX := Lib.hid hx; have HY := Lib.hid hy; clear hx hy
    go_enter Tryz.func88, Tryz.ntmps88
    go_wp2
    refine wp_region_ph [(6, .free [])] (by kernel_rfl) (by kernel_rfl) ?_
    refine Ph.belowd ?_
    simp only [List.drop_succ_cons, List.drop_zero, List.take_succ_cons, List.take_zero, Nat.reduceSub, Nat.sub_zero]
    iterate 2 (refine SeqO.val (v := ?_) (by rfl) (by rfl) (fun w1 hS => ?_) ?_; rotate_left; (· obtain ⟨hc, hcf⟩ := bcell hS; go_simp; try with_reducible rfl); simp only [Act.put, List.setIfInBounds_toArray, List.set_cons_zero, List.set_cons_succ])
    refine SeqO.callv (by rfl) (by rfl) (by rfl) cf109 (by simp [Act.eval]) (fun w1 hS => (negC x w1).eq (by rw [HX.out])) ?_
    simp only [Act.put, List.setIfInBounds_toArray, List.set_cons_zero, List.set_cons_succ]
    iterate 2 (refine SeqO.val (v := ?_) (by rfl) (by rfl) (fun w1 hS => ?_) ?_; rotate_left; (· obtain ⟨hc, hcf⟩ := bcell hS; go_simp; try with_reducible rfl); simp only [Act.put, List.setIfInBounds_toArray, List.set_cons_zero, List.set_cons_succ])
    refine SeqO.callv (by rfl) (by rfl) (by rfl) cf109 (by simp [Act.eval]) (fun w1 hS => (negC y w1).eq (by rw [HY.out])) ?_
    simp only [Act.put, List.setIfInBounds_toArray, List.set_cons_zero, List.set_cons_succ]
    refine SeqO.nil0 fun w1 hS => ?_
    have hX : Box w1 w.heap.size [.int .u64 x.a, .int .u64 x.b, .int .u64 x.c, .int .u64 x.d, .int .u64 x.e, .int .u64 x.f, .int .u64 x.g, .int .u64 x.h] 127 := ((Box.new rfl).alloc _).step hS
    have hY : Box w1 (w.heap.size + 1) [.int .u64 y.a, .int .u64 y.b, .int .u64 y.c, .int .u64 y.d, .int .u64 y.e, .int .u64 y.f, .int .u64 y.g, .int .u64 y.h] 127 := (Box.new (by simp)).step hS
    have hW : Below w.heap.size w w1 := (((Below.refl _ _).alloc (Nat.le_refl _) _).alloc (by simp) _).trans (hS.mono (by simp; omega))
    have p0 := (hX).cell 0; have p1 := (hX).cell 1; have p2 := (hX).cell 2; have p3 := (hX).cell 3; have p4 := (hX).cell 4; have p5 := (hX).cell 5; have p6 := (hX).cell 6; have p7 := (hX).cell 7; have pf := (hX).free
    simp only [List.getElem?_cons_zero, List.getElem?_cons_succ] at p0 p1 p2 p3 p4 p5 p6 p7
    have q0 := (hY).cell 0; have q1 := (hY).cell 1; have q2 := (hY).cell 2; have q3 := (hY).cell 3; have q4 := (hY).cell 4; have q5 := (hY).cell 5; have q6 := (hY).cell 6; have q7 := (hY).cell 7; have qf := (hY).free
    simp only [List.getElem?_cons_zero, List.getElem?_cons_succ] at q0 q1 q2 q3 q4 q5 q6 q7
    refine Ph.last ?_
    simp only [List.drop_succ_cons, List.drop_zero, List.take_succ_cons, List.take_zero, Nat.reduceSub, Nat.sub_zero]
    clear hX hY
    go_wp2_with fail
    refine ((aboveC x y _).eq (by rw [← H.out])).mono ?_
    rintro e w2 ⟨rfl, hS2⟩
    go_wp2
    go_ret
    exact ⟨rfl, hW.trans (hS2.mono hW.size)⟩
theorem L8.ext' {x y : L8} (ha : x.a = y.a) (hb : x.b = y.b) (hc : x.c = y.c) (hd : x.d = y.d) (he : x.e = y.e) (hf : x.f = y.f) (hg : x.g = y.g) (hh : x.h = y.h) : x = y := by
  cases x; cases y; simp_all
theorem eq8 (x y : L8) (w : World) : (Op.equalIn 10000 146 (.agg #[.int .u64 x.a, .int .u64 x.b, .int .u64 x.c, .int .u64 x.d, .int .u64 x.e, .int .u64 x.f, .int .u64 x.g, .int .u64 x.h]) (.agg #[.int .u64 y.a, .int .u64 y.b, .int .u64 y.c, .int .u64 y.d, .int .u64 y.e, .int .u64 y.f, .int .u64 y.g, .int .u64 y.h])).run Tryz.prog w = .ok (x.a == y.a && (x.b == y.b && (x.c == y.c && (x.d == y.d && (x.e == y.e && (x.f == y.f && (x.g == y.g && x.h == y.h))))))) w := by
  have u3 := Tryz.underlying121
  have a3 := Tryz.isAgg121
  have z3 := Tryz.sizeOf121
  rw [show (10000 : Nat) = 9999 + 1 from rfl, Op.equalIn]
  simp only [Sem.run_bind, run_underlying Tryz.underlying146, Result.andThen_ok]
  simp only [Std.Legacy.Range.forIn_eq_forIn_range', Std.Legacy.Range.size, Nat.sub_zero, Nat.add_sub_cancel, Nat.div_one, List.range'_succ, List.range'_zero, List.forIn_cons, List.forIn_nil]
  go_simp
  by_cases h0 : x.a = y.a
  rotate_left
  · simp [h0]
  by_cases h1 : x.b = y.b
  rotate_left
  · simp [h0, h1]
  by_cases h2 : x.c = y.c
  rotate_left
  · simp [h0, h1, h2]
  by_cases h3 : x.d = y.d
  rotate_left
  · simp [h0, h1, h2, h3]
  by_cases h4 : x.e = y.e
  rotate_left
  · simp [h0, h1, h2, h3, h4]
  by_cases h5 : x.f = y.f
  rotate_left
  · simp [h0, h1, h2, h3, h4, h5]
  by_cases h6 : x.g = y.g
  rotate_left
  · simp [h0, h1, h2, h3, h4, h5, h6]
  by_cases h7 : x.h = y.h
  rotate_left
  · simp [h0, h1, h2, h3, h4, h5, h6, h7]
  simp [h0, h1, h2, h3, h4, h5, h6, h7]
theorem neq8 (x : L8) (h : ¬ x = z8) (w : World) : (binOp .neq 146 (.agg #[.int .u64 x.a, .int .u64 x.b, .int .u64 x.c, .int .u64 x.d, .int .u64 x.e, .int .u64 x.f, .int .u64 x.g, .int .u64 x.h]) (.agg #[.int .u64 0, .int .u64 0, .int .u64 0, .int .u64 0, .int .u64 0, .int .u64 0, .int .u64 0, .int .u64 0])).run Tryz.prog w = .ok (.bool true) w := by
  have h' : ¬ (x.a = 0 ∧ x.b = 0 ∧ x.c = 0 ∧ x.d = 0 ∧ x.e = 0 ∧ x.f = 0 ∧ x.g = 0 ∧ x.h = 0) := fun ⟨a, b, c, d, e, f, g, i⟩ => h (L8.ext' a b c d e f g i)
  have hb : (x.a == 0 && (x.b == 0 && (x.c == 0 && (x.d == 0 && (x.e == 0 && (x.f == 0 && (x.g == 0 && x.h == 0))))))) = false := by
    rw [Bool.eq_false_iff]
    intro hh
    simp only [Bool.and_eq_true, beq_iff_eq] at hh
    exact h' hh
  rw [run_neq_struct]
  have := eq8 x z8 w
  simp only [z8] at this
  rw [this, hb]
  rfl
theorem neq8z (w : World) : (binOp .neq 146 (.agg #[.int .u64 z8.a, .int .u64 z8.b, .int .u64 z8.c, .int .u64 z8.d, .int .u64 z8.e, .int .u64 z8.f, .int .u64 z8.g, .int .u64 z8.h]) (.agg #[.int .u64 0, .int .u64 0, .int .u64 0, .int .u64 0, .int .u64 0, .int .u64 0, .int .u64 0, .int .u64 0])).run Tryz.prog w = .ok (.bool false) w := by
  rw [run_neq_struct]
  have := eq8 z8 z8 w
  simp only [z8] at this ⊢
  rw [this]
  simp [Result.andThen]
/-- The number of a size: it is below, or not. -/
def sgn8 (x : L8) (below : Bool) : L8 := if below = true then minus8 x else x
set_option maxRecDepth 100000 in
set_option maxHeartbeats 2000000 in
theorem signedC (x : L8) (hx : x.ok) (below : Bool) (hb : sgn8 x below = z8 ∨ topB (sgn8 x below).h = below) (w : World) : RetB Tryz.prog 108 #[.agg #[.int .u64 x.a, .int .u64 x.b, .int .u64 x.c, .int .u64 x.d, .int .u64 x.e, .int .u64 x.f, .int .u64 x.g, .int .u64 x.h], .bool below] w (.agg #[.int .u64 (sgn8 x below).a, .int .u64 (sgn8 x below).b, .int .u64 (sgn8 x below).c, .int .u64 (sgn8 x below).d, .int .u64 (sgn8 x below).e, .int .u64 (sgn8 x below).f, .int .u64 (sgn8 x below).g, .int .u64 (sgn8 x below).h]) := by
  have hz := neq8z
  unfold RetB
  cases below with
  | false =>
    have e : sgn8 x false = x := rfl
    rw [e] at hb ⊢
    clear e
    by_cases h0 : x = z8
    · clear hb
      subst h0
      go_enter Tryz.func108, Tryz.ntmps108
      go_wp2
      exact bodyPost_ret (v := .agg #[.int .u64 z8.a, .int .u64 z8.b, .int .u64 z8.c, .int .u64 z8.d, .int .u64 z8.e, .int .u64 z8.f, .int .u64 z8.g, .int .u64 z8.h]) (by simp [results, Tryz.results108, go_sem]) rfl ⟨rfl, (((Below.refl _ _).alloc (Nat.le_refl _) _).alloc (by simp) _)⟩
    · have hn := neq8 x h0
      have ht : topB x.h = false := hb.resolve_left h0
      have HT := Lib.hid ht
      clear hb ht h0
      go_enter Tryz.func108, Tryz.ntmps108
      go_wp2_with fail
      refine ((negC x _).eq (by rw [HT.out])).mono ?_
      rintro e w1 ⟨rfl, hS⟩
      have hW : Below w.heap.size w w1 := (((Below.refl _ _).alloc (Nat.le_refl _) _).alloc (by simp) _).trans (hS.mono (by simp; omega))
      have hX : Box w1 w.heap.size [.int .u64 x.a, .int .u64 x.b, .int .u64 x.c, .int .u64 x.d, .int .u64 x.e, .int .u64 x.f, .int .u64 x.g, .int .u64 x.h] 146 := ((Box.new rfl).alloc _).step hS
      have hR : Box w1 (w.heap.size + 1) _ _ := (Box.new (by simp)).step hS
      have p0 := (hX).cell 0; have p1 := (hX).cell 1; have p2 := (hX).cell 2; have p3 := (hX).cell 3; have p4 := (hX).cell 4; have p5 := (hX).cell 5; have p6 := (hX).cell 6; have p7 := (hX).cell 7; have pf := (hX).free
      simp only [List.getElem?_cons_zero, List.getElem?_cons_succ] at p0 p1 p2 p3 p4 p5 p6 p7
      have q0 := (hR).cell 0; have q1 := (hR).cell 1; have q2 := (hR).cell 2; have q3 := (hR).cell 3; have q4 := (hR).cell 4; have q5 := (hR).cell 5; have q6 := (hR).cell 6; have q7 := (hR).cell 7; have qf := (hR).free
      simp only [List.getElem?_cons_zero, List.getElem?_cons_succ] at q0 q1 q2 q3 q4 q5 q6 q7
      clear hX hR
      go_wp2
      exact bodyPost_ret (v := .agg #[.int .u64 x.a, .int .u64 x.b, .int .u64 x.c, .int .u64 x.d, .int .u64 x.e, .int .u64 x.f, .int .u64 x.g, .int .u64 x.h]) (by simp [results, Tryz.results108, go_sem, *]) rfl ⟨rfl, ((((((((hW).setCell (by first | omega | (simp; done) | (simp; omega)) _).setCell (by first | omega | (simp; done) | (simp; omega)) _).setCell (by first | omega | (simp; done) | (simp; omega)) _).setCell (by first | omega | (simp; done) | (simp; omega)) _).setCell (by first | omega | (simp; done) | (simp; omega)) _).setCell (by first | omega | (simp; done) | (simp; omega)) _).setCell (by first | omega | (simp; done) | (simp; omega)) _).setCell (by first | omega | (simp; done) | (simp; omega)) _⟩
  | true =>
    have e : sgn8 x true = minus8 x := rfl
    rw [e] at hb ⊢
    clear e
    by_cases h0 : minus8 x = z8
    · clear hb
      have H0 := Lib.hid h0
      clear h0
      go_enter Tryz.func108, Tryz.ntmps108
      go_wp2_with fail
      refine ((minusC x hx _).eq (by rw [H0.out])).mono ?_
      rintro e w1 ⟨rfl, hS⟩
      have hW : Below w.heap.size w w1 := (((Below.refl _ _).alloc (Nat.le_refl _) _).alloc (by simp) _).trans (hS.mono (by simp; omega))
      have hX : Box w1 w.heap.size [.int .u64 x.a, .int .u64 x.b, .int .u64 x.c, .int .u64 x.d, .int .u64 x.e, .int .u64 x.f, .int .u64 x.g, .int .u64 x.h] 146 := ((Box.new rfl).alloc _).step hS
      have hR : Box w1 (w.heap.size + 1) _ _ := (Box.new (by simp)).step hS
      have hX2 := Lib.hid (((((((((hX.set 0 (.int .u64 z8.a)).set 1 (.int .u64 z8.b)).set 2 (.int .u64 z8.c)).set 3 (.int .u64 z8.d)).set 4 (.int .u64 z8.e)).set 5 (.int .u64 z8.f)).set 6 (.int .u64 z8.g)).set 7 (.int .u64 z8.h)))
      have hZ := hR.lt
      have p0 := (hX).cell 0; have p1 := (hX).cell 1; have p2 := (hX).cell 2; have p3 := (hX).cell 3; have p4 := (hX).cell 4; have p5 := (hX).cell 5; have p6 := (hX).cell 6; have p7 := (hX).cell 7; have pf := (hX).free
      simp only [List.getElem?_cons_zero, List.getElem?_cons_succ] at p0 p1 p2 p3 p4 p5 p6 p7
      have q0 := (hR).cell 0; have q1 := (hR).cell 1; have q2 := (hR).cell 2; have q3 := (hR).cell 3; have q4 := (hR).cell 4; have q5 := (hR).cell 5; have q6 := (hR).cell 6; have q7 := (hR).cell 7; have qf := (hR).free
      simp only [List.getElem?_cons_zero, List.getElem?_cons_succ] at q0 q1 q2 q3 q4 q5 q6 q7
      clear hX hR
      go_wp2
      rw [H0.out]
      exact bodyPost_ret (v := .agg #[.int .u64 z8.a, .int .u64 z8.b, .int .u64 z8.c, .int .u64 z8.d, .int .u64 z8.e, .int .u64 z8.f, .int .u64 z8.g, .int .u64 z8.h]) (by simp [results, Tryz.results108, go_sem, *]) rfl ⟨rfl, ((((((((((((((((hW).setCell (by first | omega | (simp; done) | (simp; omega)) _).setCell (by first | omega | (simp; done) | (simp; omega)) _).setCell (by first | omega | (simp; done) | (simp; omega)) _).setCell (by first | omega | (simp; done) | (simp; omega)) _).setCell (by first | omega | (simp; done) | (simp; omega)) _).setCell (by first | omega | (simp; done) | (simp; omega)) _).setCell (by first | omega | (simp; done) | (simp; omega)) _).setCell (by first | omega | (simp; done) | (simp; omega)) _).setCell (by first | omega | (simp; done) | (simp; omega)) _).setCell (by first | omega | (simp; done) | (simp; omega)) _).setCell (by first | omega | (simp; done) | (simp; omega)) _).setCell (by first | omega | (simp; done) | (simp; omega)) _).setCell (by first | omega | (simp; done) | (simp; omega)) _).setCell (by first | omega | (simp; done) | (simp; omega)) _).setCell (by first | omega | (simp; done) | (simp; omega)) _).setCell (by first | omega | (simp; done) | (simp; omega)) _⟩
    · have hn := neq8 _ h0
      have ht : topB (minus8 x).h = true := hb.resolve_left h0
      have HT := Lib.hid ht
      clear hb ht h0
      have hm : (minus8 x).ok := plus8_ok
      generalize hg : minus8 x = m at *
      have HG := Lib.hid hg
      clear hg
      go_enter Tryz.func108, Tryz.ntmps108
      go_wp2_with fail
      refine ((minusC x hx _).eq (by rw [HG.out])).mono ?_
      rintro e w1 ⟨rfl, hS⟩
      have hW : Below w.heap.size w w1 := (((Below.refl _ _).alloc (Nat.le_refl _) _).alloc (by simp) _).trans (hS.mono (by simp; omega))
      have hX : Box w1 w.heap.size [.int .u64 x.a, .int .u64 x.b, .int .u64 x.c, .int .u64 x.d, .int .u64 x.e, .int .u64 x.f, .int .u64 x.g, .int .u64 x.h] 146 := ((Box.new rfl).alloc _).step hS
      have hR : Box w1 (w.heap.size + 1) _ _ := (Box.new (by simp)).step hS
      have p0 := (hX).cell 0; have p1 := (hX).cell 1; have p2 := (hX).cell 2; have p3 := (hX).cell 3; have p4 := (hX).cell 4; have p5 := (hX).cell 5; have p6 := (hX).cell 6; have p7 := (hX).cell 7; have pf := (hX).free
      simp only [List.getElem?_cons_zero, List.getElem?_cons_succ] at p0 p1 p2 p3 p4 p5 p6 p7
      have q0 := (hR).cell 0; have q1 := (hR).cell 1; have q2 := (hR).cell 2; have q3 := (hR).cell 3; have q4 := (hR).cell 4; have q5 := (hR).cell 5; have q6 := (hR).cell 6; have q7 := (hR).cell 7; have qf := (hR).free
      simp only [List.getElem?_cons_zero, List.getElem?_cons_succ] at q0 q1 q2 q3 q4 q5 q6 q7
      have HX := Lib.hid hX; have HRR := Lib.hid hR
      clear hX hR
      go_wp2_with fail
      refine ((negC m _).eq (by rw [HT.out])).mono ?_
      rintro e w2 ⟨rfl, hS2⟩
      have hX2 : Box w2 w.heap.size [.int .u64 m.a, .int .u64 m.b, .int .u64 m.c, .int .u64 m.d, .int .u64 m.e, .int .u64 m.f, .int .u64 m.g, .int .u64 m.h] 146 := ((((((((HX.out.set 0 _).set 1 _).set 2 _).set 3 _).set 4 _).set 5 _).set 6 _).set 7 _).step hS2
      have hR2 : Box w2 (w.heap.size + 1) _ _ := ((((((((HRR.out.other (by simp) _).other (by simp) _).other (by simp) _).other (by simp) _).other (by simp) _).other (by simp) _).other (by simp) _).other (by simp) _).step hS2
      have hZ := HX.out.lt
      clear p0 p1 p2 p3 p4 p5 p6 p7 pf
      clear q0 q1 q2 q3 q4 q5 q6 q7 qf
      have p0 := (hX2).cell 0; have p1 := (hX2).cell 1; have p2 := (hX2).cell 2; have p3 := (hX2).cell 3; have p4 := (hX2).cell 4; have p5 := (hX2).cell 5; have p6 := (hX2).cell 6; have p7 := (hX2).cell 7; have pf := (hX2).free
      simp only [List.getElem?_cons_zero, List.getElem?_cons_succ] at p0 p1 p2 p3 p4 p5 p6 p7
      have q0 := (hR2).cell 0; have q1 := (hR2).cell 1; have q2 := (hR2).cell 2; have q3 := (hR2).cell 3; have q4 := (hR2).cell 4; have q5 := (hR2).cell 5; have q6 := (hR2).cell 6; have q7 := (hR2).cell 7; have qf := (hR2).free
      simp only [List.getElem?_cons_zero, List.getElem?_cons_succ] at q0 q1 q2 q3 q4 q5 q6 q7
      have hW2 : Below w.heap.size w w2 := (((((((((hW).setCell (by first | omega | (simp; done) | (simp; omega)) _).setCell (by first | omega | (simp; done) | (simp; omega)) _).setCell (by first | omega | (simp; done) | (simp; omega)) _).setCell (by first | omega | (simp; done) | (simp; omega)) _).setCell (by first | omega | (simp; done) | (simp; omega)) _).setCell (by first | omega | (simp; done) | (simp; omega)) _).setCell (by first | omega | (simp; done) | (simp; omega)) _).setCell (by first | omega | (simp; done) | (simp; omega)) _).trans (hS2.mono (by simp; omega))
      clear hX2 hR2
      go_wp2
      exact bodyPost_ret (v := .agg #[.int .u64 m.a, .int .u64 m.b, .int .u64 m.c, .int .u64 m.d, .int .u64 m.e, .int .u64 m.f, .int .u64 m.g, .int .u64 m.h]) (by simp [results, Tryz.results108, go_sem, *]) rfl ⟨rfl, ((((((((hW2).setCell (by first | omega | (simp; done) | (simp; omega)) _).setCell (by first | omega | (simp; done) | (simp; omega)) _).setCell (by first | omega | (simp; done) | (simp; omega)) _).setCell (by first | omega | (simp; done) | (simp; omega)) _).setCell (by first | omega | (simp; done) | (simp; omega)) _).setCell (by first | omega | (simp; done) | (simp; omega)) _).setCell (by first | omega | (simp; done) | (simp; omega)) _).setCell (by first | omega | (simp; done) | (simp; omega)) _⟩
end Go.Proofs.YtbcjnckejkjfeaaGreat
