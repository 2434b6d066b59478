/- Products and differences that fit, and the vector product: the walks. No condition. -/
import Derived.Test.YtbbiefgmlklafaaGOf
namespace Go.Proofs.Ytbbiefgmlklafaa
set_option linter.unusedVariables false
set_option linter.unusedSimpArgs false
open Go.RowKit Go.NP
namespace GTm
theorem below_alloc {W w : World} (h : Below W.heap.size W w) (o : Obj) : Below W.heap.size W (w.alloc o) := h.alloc h.size o
set_option maxHeartbeats 2000000 in
theorem timesG {x y : Int} (hx : WidB.half x) (hy : WidB.half y) (w : World) : RetB Try.prog 48 #[.agg #[.int .u64 (w8 x).a, .int .u64 (w8 x).b, .int .u64 (w8 x).c, .int .u64 (w8 x).d, .int .u64 (w8 x).e, .int .u64 (w8 x).f, .int .u64 (w8 x).g, .int .u64 (w8 x).h], .agg #[.int .u64 (w8 y).a, .int .u64 (w8 y).b, .int .u64 (w8 y).c, .int .u64 (w8 y).d, .int .u64 (w8 y).e, .int .u64 (w8 y).f, .int .u64 (w8 y).g, .int .u64 (w8 y).h]] w (.agg #[.int .u64 (w8 (x * y)).a, .int .u64 (w8 (x * y)).b, .int .u64 (w8 (x * y)).c, .int .u64 (w8 (x * y)).d, .int .u64 (w8 (x * y)).e, .int .u64 (w8 (x * y)).f, .int .u64 (w8 (x * y)).g, .int .u64 (w8 (x * y)).h]) := by
  have H := Lib.hid (fun w => WidB.mulW hx hy w)
  clear hx hy
  unfold RetB
  go_enter Try.func48, Try.ntmps48
  go_wp2_with fail
  refine (H.out _).mono ?_
  rintro e w1 ⟨rfl, hS⟩
  have hR : Box w1 (w.heap.size + 1 + 1) [.int .u64 0, .int .u64 0, .int .u64 0, .int .u64 0, .int .u64 0, .int .u64 0, .int .u64 0, .int .u64 0] 37 := (Box.new (by simp)).step hS
  have hW : Below w.heap.size w w1 := ((((Below.refl _ _).alloc (Nat.le_refl _) _).alloc (by simp) _).alloc (by simp; omega) _).trans (hS.mono (by simp; omega))
  have l0 := hR.lt
  have q0 := (hR).cell 0; have q1 := (hR).cell 1; have q2 := (hR).cell 2; have q3 := (hR).cell 3; have q4 := (hR).cell 4; have q5 := (hR).cell 5; have q6 := (hR).cell 6; have q7 := (hR).cell 7; have qf := (hR).free
  simp only [List.getElem?_cons_zero, List.getElem?_cons_succ] at q0 q1 q2 q3 q4 q5 q6 q7
  clear hS
  go_wp2
  exact bodyPost_ret (v := .agg #[.int .u64 (w8 (x * y)).a, .int .u64 (w8 (x * y)).b, .int .u64 (w8 (x * y)).c, .int .u64 (w8 (x * y)).d, .int .u64 (w8 (x * y)).e, .int .u64 (w8 (x * y)).f, .int .u64 (w8 (x * y)).g, .int .u64 (w8 (x * y)).h]) (by simp [results, Try.results48, go_sem, *]) rfl ⟨rfl, below_alloc (((((((((hW).setCell (by first | omega | (simp; done) | (simp; omega)) _).setCell (by first | omega | (simp; done) | (simp; omega)) _).setCell (by first | omega | (simp; done) | (simp; omega)) _).setCell (by first | omega | (simp; done) | (simp; omega)) _).setCell (by first | omega | (simp; done) | (simp; omega)) _).setCell (by first | omega | (simp; done) | (simp; omega)) _).setCell (by first | omega | (simp; done) | (simp; omega)) _).setCell (by first | omega | (simp; done) | (simp; omega)) _) _⟩
set_option maxHeartbeats 2000000 in
theorem lessG {x y : Int} (hx : fits x) (hy : fits y) (hxy : fits (x - y)) (w : World) : RetB Try.prog 47 #[.agg #[.int .u64 (w8 x).a, .int .u64 (w8 x).b, .int .u64 (w8 x).c, .int .u64 (w8 x).d, .int .u64 (w8 x).e, .int .u64 (w8 x).f, .int .u64 (w8 x).g, .int .u64 (w8 x).h], .agg #[.int .u64 (w8 y).a, .int .u64 (w8 y).b, .int .u64 (w8 y).c, .int .u64 (w8 y).d, .int .u64 (w8 y).e, .int .u64 (w8 y).f, .int .u64 (w8 y).g, .int .u64 (w8 y).h]] w (.agg #[.int .u64 (w8 (x - y)).a, .int .u64 (w8 (x - y)).b, .int .u64 (w8 (x - y)).c, .int .u64 (w8 (x - y)).d, .int .u64 (w8 (x - y)).e, .int .u64 (w8 (x - y)).f, .int .u64 (w8 (x - y)).g, .int .u64 (w8 (x - y)).h]) := by
  have H := Lib.hid (fun w => WidB.subW hx hy hxy w)
  clear hx hy hxy
  unfold RetB
  go_enter Try.func47, Try.ntmps47
  go_wp2_with fail
  refine (H.out _).mono ?_
  rintro e w1 ⟨rfl, hS⟩
  have hR : Box w1 (w.heap.size + 1 + 1) [.int .u64 0, .int .u64 0, .int .u64 0, .int .u64 0, .int .u64 0, .int .u64 0, .int .u64 0, .int .u64 0] 37 := (Box.new (by simp)).step hS
  have hW : Below w.heap.size w w1 := ((((Below.refl _ _).alloc (Nat.le_refl _) _).alloc (by simp) _).alloc (by simp; omega) _).trans (hS.mono (by simp; omega))
  have l0 := hR.lt
  have q0 := (hR).cell 0; have q1 := (hR).cell 1; have q2 := (hR).cell 2; have q3 := (hR).cell 3; have q4 := (hR).cell 4; have q5 := (hR).cell 5; have q6 := (hR).cell 6; have q7 := (hR).cell 7; have qf := (hR).free
  simp only [List.getElem?_cons_zero, List.getElem?_cons_succ] at q0 q1 q2 q3 q4 q5 q6 q7
  clear hS
  go_wp2
  exact bodyPost_ret (v := .agg #[.int .u64 (w8 (x - y)).a, .int .u64 (w8 (x - y)).b, .int .u64 (w8 (x - y)).c, .int .u64 (w8 (x - y)).d, .int .u64 (w8 (x - y)).e, .int .u64 (w8 (x - y)).f, .int .u64 (w8 (x - y)).g, .int .u64 (w8 (x - y)).h]) (by simp [results, Try.results47, go_sem, *]) rfl ⟨rfl, below_alloc (((((((((hW).setCell (by first | omega | (simp; done) | (simp; omega)) _).setCell (by first | omega | (simp; done) | (simp; omega)) _).setCell (by first | omega | (simp; done) | (simp; omega)) _).setCell (by first | omega | (simp; done) | (simp; omega)) _).setCell (by first | omega | (simp; done) | (simp; omega)) _).setCell (by first | omega | (simp; done) | (simp; omega)) _).setCell (by first | omega | (simp; done) | (simp; omega)) _).setCell (by first | omega | (simp; done) | (simp; omega)) _) _⟩
end GTm
end Go.Proofs.Ytbbiefgmlklafaa
