/- Integers of 512 bits as eight words: the walks. No condition. -/
import Derived.Test.YtbcjnckejkjfeaaProg
import Derived.Test.YtbcjnckejkjfeaaReg
import Derived.WalkKit
import Derived.WalkSpells
import Derived.WalkLawsBesides
import Derived.Test.YtbcjnckejkjfeaaRegB
import Derived.Test.YtbcjnckejkjfeaaMem
import Derived.Lib.Hide
namespace Go.Proofs.Ytbcjnckejkjfeaa
set_option linter.unusedVariables false
set_option linter.unusedSimpArgs false
open Go.RowKit Go.NP
structure L8 where
  a : Int
  b : Int
  c : Int
  d : Int
  e : Int
  f : Int
  g : Int
  h : Int
def isW (n : Int) : Prop := 0 ≤ n ∧ n < 18446744073709551616
structure L8.ok (x : L8) : Prop where
  a : isW x.a
  b : isW x.b
  c : isW x.c
  d : isW x.d
  e : isW x.e
  f : isW x.f
  g : isW x.g
  h : isW x.h
def s64 (x y c : Int) : Int := (x + y + c) % 18446744073709551616
def c64 (x y c : Int) : Int := (x + y + c) / 18446744073709551616
def is01 (c : Int) : Prop := 0 ≤ c ∧ c ≤ 1
theorem c64_is {x y c : Int} (hx : isW x) (hy : isW y) (hc : is01 c) : is01 (c64 x y c) := by
  unfold isW is01 c64 at *; omega
theorem s64_is {x y c : Int} : isW (s64 x y c) := by
  unfold isW s64; omega
theorem cf94 (args : Array Value) (w1 : World) : (callFunc 94 args).run Try.prog w1 = .ok (.enter 94 args) w1 := enters Try.func94 (by kernel_rfl) (by kernel_rfl) args w1
theorem cf104 (args : Array Value) (w1 : World) : (callFunc 104 args).run Try.prog w1 = .ok (.enter 104 args) w1 := enters Try.func104 (by kernel_rfl) (by kernel_rfl) args w1
theorem cf105 (args : Array Value) (w1 : World) : (callFunc 105 args).run Try.prog w1 = .ok (.enter 105 args) w1 := enters Try.func105 (by kernel_rfl) (by kernel_rfl) args w1
theorem cf106 (args : Array Value) (w1 : World) : (callFunc 106 args).run Try.prog w1 = .ok (.enter 106 args) w1 := enters Try.func106 (by kernel_rfl) (by kernel_rfl) args w1
theorem cf103 (args : Array Value) (w1 : World) : (callFunc 103 args).run Try.prog w1 = .ok (.enter 103 args) w1 := enters Try.func103 (by kernel_rfl) (by kernel_rfl) args w1
theorem cf101 (args : Array Value) (w1 : World) : (callFunc 101 args).run Try.prog w1 = .ok (.enter 101 args) w1 := enters Try.func101 (by kernel_rfl) (by kernel_rfl) args w1
theorem cf90 (args : Array Value) (w1 : World) : (callFunc 90 args).run Try.prog w1 = .ok (.enter 90 args) w1 := enters Try.func90 (by kernel_rfl) (by kernel_rfl) args w1
theorem cf95 (args : Array Value) (w1 : World) : (callFunc 95 args).run Try.prog w1 = .ok (.enter 95 args) w1 := enters Try.func95 (by kernel_rfl) (by kernel_rfl) args w1
theorem cf74 (args : Array Value) (w1 : World) : (callFunc 74 args).run Try.prog w1 = .ok (.enter 74 args) w1 := enters Try.func74 (by kernel_rfl) (by kernel_rfl) args w1
theorem cf73 (args : Array Value) (w1 : World) : (callFunc 73 args).run Try.prog w1 = .ok (.enter 73 args) w1 := enters Try.func73 (by kernel_rfl) (by kernel_rfl) args w1
theorem add64_run (x y c : Int) (hx : isW x) (hy : isW y) (hc : is01 c) (w : World) :
    (callFunc 92 #[.int .u64 x, .int .u64 y, .int .u64 c]).run Try.prog w = .ok (.value (.tuple #[.int .u64 (s64 x y c), .int .u64 (c64 x y c)])) w := by
  rw [run_callFunc_extern Try.func92 (by kernel_rfl) (by kernel_rfl) (by kernel_rfl) (e := add64Entry) (by kernel_rfl), run_add64 x y c hx.1 hy.1 hc.1 hc.2]
  rfl
def topB (x : Int) : Bool := x / 9223372036854775808 == 1
set_option maxHeartbeats 400000 in
theorem negC (x : L8) (w : World) : RetB Try.prog 94 #[.agg #[.int .u64 x.a, .int .u64 x.b, .int .u64 x.c, .int .u64 x.d, .int .u64 x.e, .int .u64 x.f, .int .u64 x.g, .int .u64 x.h]] w (.bool (topB x.h)) := by
  unfold RetB
  have H := Lib.hid (show topB x.h = (x.h / 9223372036854775808 == 1) from rfl)
  go_enter Try.func94, Try.ntmps94
  go_wp2
  go_ret
  exact ⟨by rw [H.out]; rfl, (Below.refl _ _).alloc (Nat.le_refl _) _⟩
set_option maxHeartbeats 400000 in
theorem adder1C (x y c : Int) (hx : isW x) (hy : isW y) (hc : is01 c) (b : Nat) (w : World) (h0 : w.cell? ⟨b, 0, none⟩ = some (.int .u64 c)) (hf : w.frozen? ⟨b, 0, none⟩ = false) :
    Calls Try.prog 106 #[.int .u64 x, .int .u64 y, .pointer (some ⟨b, 0, none⟩)] w fun e w' => e = .returned (.int .u64 (s64 x y c)) ∧ w' = w.setCell ⟨b, 0, none⟩ (.int .u64 (c64 x y c)) := by
  have hr := add64_run x y c hx hy hc
  clear hx hy hc
  go_enter Try.func106, Try.ntmps106
  go_wp2
  go_ret
  exact ⟨rfl, rfl⟩
set_option maxHeartbeats 400000 in
theorem adderC (c : Int) (w : World) : Calls Try.prog 105 #[.int .u64 c] w fun e w' => e = .returned (.func (.func 106) #[] #[.pointer (some ⟨w.heap.size, 0, none⟩)]) ∧ w' = w.alloc (.cells #[.int .u64 c] 106) := by
  go_enter Try.func105, Try.ntmps105
  go_wp2
  go_ret
  exact ⟨rfl, rfl⟩
def k1 (x y : L8) (c : Int) : Int := c64 x.a y.a c
def k2 (x y : L8) (c : Int) : Int := c64 x.b y.b (k1 x y c)
def k3 (x y : L8) (c : Int) : Int := c64 x.c y.c (k2 x y c)
def k4 (x y : L8) (c : Int) : Int := c64 x.d y.d (k3 x y c)
def k5 (x y : L8) (c : Int) : Int := c64 x.e y.e (k4 x y c)
def k6 (x y : L8) (c : Int) : Int := c64 x.f y.f (k5 x y c)
def k7 (x y : L8) (c : Int) : Int := c64 x.g y.g (k6 x y c)
def k8 (x y : L8) (c : Int) : Int := c64 x.h y.h (k7 x y c)
def plus8 (x y : L8) (c : Int) : L8 := ⟨s64 x.a y.a c, s64 x.b y.b (k1 x y c), s64 x.c y.c (k2 x y c), s64 x.d y.d (k3 x y c), s64 x.e y.e (k4 x y c), s64 x.f y.f (k5 x y c), s64 x.g y.g (k6 x y c), s64 x.h y.h (k7 x y c)⟩
end Go.Proofs.Ytbcjnckejkjfeaa
