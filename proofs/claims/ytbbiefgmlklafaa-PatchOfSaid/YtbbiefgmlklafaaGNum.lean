/- Numbers of two vectors, side by side: the maker of the iterator: the walk. No condition. -/
import Derived.Test.YtbbiefgmlklafaaGCr
namespace Go.Proofs.Ytbbiefgmlklafaa
set_option linter.unusedVariables false
set_option linter.unusedSimpArgs false
open Go.RowKit Go.NP
namespace GNum
set_option maxRecDepth 100000 in
set_option maxHeartbeats 1000000 in
theorem numC (a b c d e f : Int) (w : World) : Calls Try.prog 74 #[.agg #[.int .u64 (w8 a).a, .int .u64 (w8 a).b, .int .u64 (w8 a).c, .int .u64 (w8 a).d, .int .u64 (w8 a).e, .int .u64 (w8 a).f, .int .u64 (w8 a).g, .int .u64 (w8 a).h, .int .u64 (w8 b).a, .int .u64 (w8 b).b, .int .u64 (w8 b).c, .int .u64 (w8 b).d, .int .u64 (w8 b).e, .int .u64 (w8 b).f, .int .u64 (w8 b).g, .int .u64 (w8 b).h, .int .u64 (w8 c).a, .int .u64 (w8 c).b, .int .u64 (w8 c).c, .int .u64 (w8 c).d, .int .u64 (w8 c).e, .int .u64 (w8 c).f, .int .u64 (w8 c).g, .int .u64 (w8 c).h], .agg #[.int .u64 (w8 d).a, .int .u64 (w8 d).b, .int .u64 (w8 d).c, .int .u64 (w8 d).d, .int .u64 (w8 d).e, .int .u64 (w8 d).f, .int .u64 (w8 d).g, .int .u64 (w8 d).h, .int .u64 (w8 e).a, .int .u64 (w8 e).b, .int .u64 (w8 e).c, .int .u64 (w8 e).d, .int .u64 (w8 e).e, .int .u64 (w8 e).f, .int .u64 (w8 e).g, .int .u64 (w8 e).h, .int .u64 (w8 f).a, .int .u64 (w8 f).b, .int .u64 (w8 f).c, .int .u64 (w8 f).d, .int .u64 (w8 f).e, .int .u64 (w8 f).f, .int .u64 (w8 f).g, .int .u64 (w8 f).h]] w fun x w' =>
    x = .returned (.func (.func 89) #[] #[.pointer (some ⟨w.heap.size, 0, none⟩), .pointer (some ⟨w.heap.size + 1, 0, none⟩)]) ∧
      w' = (w.alloc (.cells [.int .u64 (w8 a).a, .int .u64 (w8 a).b, .int .u64 (w8 a).c, .int .u64 (w8 a).d, .int .u64 (w8 a).e, .int .u64 (w8 a).f, .int .u64 (w8 a).g, .int .u64 (w8 a).h, .int .u64 (w8 b).a, .int .u64 (w8 b).b, .int .u64 (w8 b).c, .int .u64 (w8 b).d, .int .u64 (w8 b).e, .int .u64 (w8 b).f, .int .u64 (w8 b).g, .int .u64 (w8 b).h, .int .u64 (w8 c).a, .int .u64 (w8 c).b, .int .u64 (w8 c).c, .int .u64 (w8 c).d, .int .u64 (w8 c).e, .int .u64 (w8 c).f, .int .u64 (w8 c).g, .int .u64 (w8 c).h].toArray 64)).alloc (.cells [.int .u64 (w8 d).a, .int .u64 (w8 d).b, .int .u64 (w8 d).c, .int .u64 (w8 d).d, .int .u64 (w8 d).e, .int .u64 (w8 d).f, .int .u64 (w8 d).g, .int .u64 (w8 d).h, .int .u64 (w8 e).a, .int .u64 (w8 e).b, .int .u64 (w8 e).c, .int .u64 (w8 e).d, .int .u64 (w8 e).e, .int .u64 (w8 e).f, .int .u64 (w8 e).g, .int .u64 (w8 e).h, .int .u64 (w8 f).a, .int .u64 (w8 f).b, .int .u64 (w8 f).c, .int .u64 (w8 f).d, .int .u64 (w8 f).e, .int .u64 (w8 f).f, .int .u64 (w8 f).g, .int .u64 (w8 f).h].toArray 64) := by
  have hmf : ∀ (fn : Fn) (first cap : Array Value) (w : World), (Instr.makeFunc fn first cap).run Try.prog w = .ok (.func fn first cap) w := fun _ _ _ _ => rfl
  go_enter Try.func74, Try.ntmps74
  go_wp2
  go_ret
  exact ⟨rfl, rfl⟩
end GNum
end Go.Proofs.Ytbbiefgmlklafaa
