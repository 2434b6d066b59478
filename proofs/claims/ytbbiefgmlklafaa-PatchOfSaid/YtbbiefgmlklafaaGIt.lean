/- Numbers of two vectors, side by side: the iterator: the walk. Condition: the vectors' blocks are as they are told. -/
import Derived.Test.YtbbiefgmlklafaaGNum
import Derived.Test.YtbbiefgmlklafaaRegI
namespace Go.Proofs.Ytbbiefgmlklafaa
set_option linter.unusedVariables false
set_option linter.unusedSimpArgs false
open Go.RowKit Go.NP
namespace GIt
/-- Two numbers that a round is handed. -/
abbrev Two := { x : Int × Int // GCr.c30 x.1 ∧ GCr.c30 x.2 }
def encs (x : Two) : Array Value := #[.agg #[.int .u64 (w8 x.1.1).a, .int .u64 (w8 x.1.1).b, .int .u64 (w8 x.1.1).c, .int .u64 (w8 x.1.1).d, .int .u64 (w8 x.1.1).e, .int .u64 (w8 x.1.1).f, .int .u64 (w8 x.1.1).g, .int .u64 (w8 x.1.1).h], .agg #[.int .u64 (w8 x.1.2).a, .int .u64 (w8 x.1.2).b, .int .u64 (w8 x.1.2).c, .int .u64 (w8 x.1.2).d, .int .u64 (w8 x.1.2).e, .int .u64 (w8 x.1.2).f, .int .u64 (w8 x.1.2).g, .int .u64 (w8 x.1.2).h]]
/-- What a round keeps: the two vectors' blocks. -/
def Kp (b1 b2 : Nat) (A B : World) : Prop := B.heap[b1]? = A.heap[b1]? ∧ B.heap[b2]? = A.heap[b2]?
theorem Kp.one {b1 b2 : Nat} {A B : World} (h : Kp b1 b2 A B) {l : List Value} {T : TypeId} (hb : Box A b1 l T) : Box B b1 l T := h.1.trans hb
theorem Kp.two {b1 b2 : Nat} {A B : World} (h : Kp b1 b2 A B) {l : List Value} {T : TypeId} (hb : Box A b2 l T) : Box B b2 l T := h.2.trans hb
theorem Kp.trans {b1 b2 : Nat} {A B C : World} (h : Kp b1 b2 A B) (k : Kp b1 b2 B C) : Kp b1 b2 A C := ⟨k.1.trans h.1, k.2.trans h.2⟩
theorem Kp.put {b1 b2 : Nat} {w : World} (h1 : b1 < w.heap.size) (h2 : b2 < w.heap.size) (W : World) (l : Nat) (o o' : Obj) (hl : w.heap.size ≤ l) (_ : W.heap[l]? = some o) (_ : o.isCells = false) (_ : o.isWalk = false) : Kp b1 b2 W (W.putObj l o') :=
  ⟨World.putObj_heap_other (by omega), World.putObj_heap_other (by omega)⟩
theorem Kp.below {b1 b2 n : Nat} {A B : World} (h : Below n A B) (h1 : b1 < n) (h2 : b2 < n) : Kp b1 b2 A B := ⟨h.block b1 h1, h.block b2 h2⟩
set_option maxRecDepth 100000 in
set_option maxHeartbeats 4000000 in
theorem num1S (m b1 b2 : Nat) (x y z : Two) (w : World) (h1 : Box w b1 [.int .u64 (w8 x.1.1).a, .int .u64 (w8 x.1.1).b, .int .u64 (w8 x.1.1).c, .int .u64 (w8 x.1.1).d, .int .u64 (w8 x.1.1).e, .int .u64 (w8 x.1.1).f, .int .u64 (w8 x.1.1).g, .int .u64 (w8 x.1.1).h, .int .u64 (w8 y.1.1).a, .int .u64 (w8 y.1.1).b, .int .u64 (w8 y.1.1).c, .int .u64 (w8 y.1.1).d, .int .u64 (w8 y.1.1).e, .int .u64 (w8 y.1.1).f, .int .u64 (w8 y.1.1).g, .int .u64 (w8 y.1.1).h, .int .u64 (w8 z.1.1).a, .int .u64 (w8 z.1.1).b, .int .u64 (w8 z.1.1).c, .int .u64 (w8 z.1.1).d, .int .u64 (w8 z.1.1).e, .int .u64 (w8 z.1.1).f, .int .u64 (w8 z.1.1).g, .int .u64 (w8 z.1.1).h] 64) (h2 : Box w b2 [.int .u64 (w8 x.1.2).a, .int .u64 (w8 x.1.2).b, .int .u64 (w8 x.1.2).c, .int .u64 (w8 x.1.2).d, .int .u64 (w8 x.1.2).e, .int .u64 (w8 x.1.2).f, .int .u64 (w8 x.1.2).g, .int .u64 (w8 x.1.2).h, .int .u64 (w8 y.1.2).a, .int .u64 (w8 y.1.2).b, .int .u64 (w8 y.1.2).c, .int .u64 (w8 y.1.2).d, .int .u64 (w8 y.1.2).e, .int .u64 (w8 y.1.2).f, .int .u64 (w8 y.1.2).g, .int .u64 (w8 y.1.2).h, .int .u64 (w8 z.1.2).a, .int .u64 (w8 z.1.2).b, .int .u64 (w8 z.1.2).c, .int .u64 (w8 z.1.2).d, .int .u64 (w8 z.1.2).e, .int .u64 (w8 z.1.2).f, .int .u64 (w8 z.1.2).g, .int .u64 (w8 z.1.2).h] 64) :
    SeqStopsK Fence.wide m Try.prog 89 #[.pointer (some ⟨b1, 0, none⟩), .pointer (some ⟨b2, 0, none⟩)] encs (Kp b1 b2) (fun xs => xs = [x, y, z]) (fun pre => True) 3 w := by
  intro l J Jx W hW _ _ hY h0
  have hA : Box W b1 [.int .u64 (w8 x.1.1).a, .int .u64 (w8 x.1.1).b, .int .u64 (w8 x.1.1).c, .int .u64 (w8 x.1.1).d, .int .u64 (w8 x.1.1).e, .int .u64 (w8 x.1.1).f, .int .u64 (w8 x.1.1).g, .int .u64 (w8 x.1.1).h, .int .u64 (w8 y.1.1).a, .int .u64 (w8 y.1.1).b, .int .u64 (w8 y.1.1).c, .int .u64 (w8 y.1.1).d, .int .u64 (w8 y.1.1).e, .int .u64 (w8 y.1.1).f, .int .u64 (w8 y.1.1).g, .int .u64 (w8 y.1.1).h, .int .u64 (w8 z.1.1).a, .int .u64 (w8 z.1.1).b, .int .u64 (w8 z.1.1).c, .int .u64 (w8 z.1.1).d, .int .u64 (w8 z.1.1).e, .int .u64 (w8 z.1.1).f, .int .u64 (w8 z.1.1).g, .int .u64 (w8 z.1.1).h] 64 := h1.step hW
  have hB : Box W b2 [.int .u64 (w8 x.1.2).a, .int .u64 (w8 x.1.2).b, .int .u64 (w8 x.1.2).c, .int .u64 (w8 x.1.2).d, .int .u64 (w8 x.1.2).e, .int .u64 (w8 x.1.2).f, .int .u64 (w8 x.1.2).g, .int .u64 (w8 x.1.2).h, .int .u64 (w8 y.1.2).a, .int .u64 (w8 y.1.2).b, .int .u64 (w8 y.1.2).c, .int .u64 (w8 y.1.2).d, .int .u64 (w8 y.1.2).e, .int .u64 (w8 y.1.2).f, .int .u64 (w8 y.1.2).g, .int .u64 (w8 y.1.2).h, .int .u64 (w8 z.1.2).a, .int .u64 (w8 z.1.2).b, .int .u64 (w8 z.1.2).c, .int .u64 (w8 z.1.2).d, .int .u64 (w8 z.1.2).e, .int .u64 (w8 z.1.2).f, .int .u64 (w8 z.1.2).g, .int .u64 (w8 z.1.2).h] 64 := h2.step hW
  refine callsIn_of_wp Try.func89 rfl trivial ?_ rfl
  simp only [Try.ntmps89, List.size_toArray, List.length_cons, List.length_nil, Nat.reduceAdd, Nat.reduceSub, Array.replicate_succ, Array.replicate_zero, List.push_toArray, List.append_toArray, List.nil_append, List.cons_append]
  refine wpIn_region_lit ?_
  iterate 2 (with_reducible refine wpI_v (v := ?_) fw_wide ?_ ?_ ?_ ?_; rotate_left; (· kernel_rfl); (· kernel_rfl); (· go_simp; try with_reducible rfl); conv => arg 7; simp only [Act.put, List.setIfInBounds_toArray, List.set_cons_zero, List.set_cons_succ])
  refine wpI_load (l := [.int .u64 (w8 x.1.1).a, .int .u64 (w8 x.1.1).b, .int .u64 (w8 x.1.1).c, .int .u64 (w8 x.1.1).d, .int .u64 (w8 x.1.1).e, .int .u64 (w8 x.1.1).f, .int .u64 (w8 x.1.1).g, .int .u64 (w8 x.1.1).h]) fw_wide (by rfl) (by rfl) hA (by rfl) Try.underlying37 (by rfl) (by kernel_rfl) (by kernel_rfl) ?_
  conv => arg 7; simp only [Act.put, List.setIfInBounds_toArray, List.set_cons_zero, List.set_cons_succ]
  iterate 1 (with_reducible refine wpI_v (v := ?_) fw_wide ?_ ?_ ?_ ?_; rotate_left; (· kernel_rfl); (· kernel_rfl); (· go_simp; try with_reducible rfl); conv => arg 7; simp only [Act.put, List.setIfInBounds_toArray, List.set_cons_zero, List.set_cons_succ])
  refine wpI_load (l := [.int .u64 (w8 x.1.2).a, .int .u64 (w8 x.1.2).b, .int .u64 (w8 x.1.2).c, .int .u64 (w8 x.1.2).d, .int .u64 (w8 x.1.2).e, .int .u64 (w8 x.1.2).f, .int .u64 (w8 x.1.2).g, .int .u64 (w8 x.1.2).h]) fw_wide (by rfl) (by rfl) hB (by rfl) Try.underlying37 (by rfl) (by kernel_rfl) (by kernel_rfl) ?_
  conv => arg 7; simp only [Act.put, List.setIfInBounds_toArray, List.set_cons_zero, List.set_cons_succ]
  refine wpI_yield fw_wide (by kernel_rfl) (by rfl) (by simp [Act.eval, encs]) (hY [] x W h0 (by decide)) fun e W1 hr => ?_
  rcases hr with ⟨rfl, hJ1, hK1⟩ | ⟨rfl, hJ1⟩
  · have hA := hK1.one hA
    have hB := hK1.two hB
    refine ⟨_, rfl, ?_⟩
    conv => arg 7; simp only [Act.put, List.setIfInBounds_toArray, List.set_cons_zero, List.set_cons_succ]
    iterate 3 (with_reducible refine wpI_v (v := ?_) fw_wide ?_ ?_ ?_ ?_; rotate_left; (· kernel_rfl); (· kernel_rfl); (· go_simp; try with_reducible rfl); conv => arg 7; simp only [Act.put, List.setIfInBounds_toArray, List.set_cons_zero, List.set_cons_succ])
    refine wpI_load (l := [.int .u64 (w8 y.1.1).a, .int .u64 (w8 y.1.1).b, .int .u64 (w8 y.1.1).c, .int .u64 (w8 y.1.1).d, .int .u64 (w8 y.1.1).e, .int .u64 (w8 y.1.1).f, .int .u64 (w8 y.1.1).g, .int .u64 (w8 y.1.1).h]) fw_wide (by rfl) (by rfl) hA (by rfl) Try.underlying37 (by rfl) (by kernel_rfl) (by kernel_rfl) ?_
    conv => arg 7; simp only [Act.put, List.setIfInBounds_toArray, List.set_cons_zero, List.set_cons_succ]
    iterate 1 (with_reducible refine wpI_v (v := ?_) fw_wide ?_ ?_ ?_ ?_; rotate_left; (· kernel_rfl); (· kernel_rfl); (· go_simp; try with_reducible rfl); conv => arg 7; simp only [Act.put, List.setIfInBounds_toArray, List.set_cons_zero, List.set_cons_succ])
    refine wpI_load (l := [.int .u64 (w8 y.1.2).a, .int .u64 (w8 y.1.2).b, .int .u64 (w8 y.1.2).c, .int .u64 (w8 y.1.2).d, .int .u64 (w8 y.1.2).e, .int .u64 (w8 y.1.2).f, .int .u64 (w8 y.1.2).g, .int .u64 (w8 y.1.2).h]) fw_wide (by rfl) (by rfl) hB (by rfl) Try.underlying37 (by rfl) (by kernel_rfl) (by kernel_rfl) ?_
    conv => arg 7; simp only [Act.put, List.setIfInBounds_toArray, List.set_cons_zero, List.set_cons_succ]
    refine wpI_yield fw_wide (by kernel_rfl) (by rfl) (by simp [Act.eval, encs]) (hY [x] y W1 hJ1 (by simp)) fun e W2 hr => ?_
    rcases hr with ⟨rfl, hJ2, hK2⟩ | ⟨rfl, hJ2⟩
    · have hA := hK2.one hA
      have hB := hK2.two hB
      refine ⟨_, rfl, ?_⟩
      conv => arg 7; simp only [Act.put, List.setIfInBounds_toArray, List.set_cons_zero, List.set_cons_succ]
      iterate 4 (with_reducible refine wpI_v (v := ?_) fw_wide ?_ ?_ ?_ ?_; rotate_left; (· kernel_rfl); (· kernel_rfl); (· go_simp; try with_reducible rfl); conv => arg 7; simp only [Act.put, List.setIfInBounds_toArray, List.set_cons_zero, List.set_cons_succ])
      refine wpI_load (l := [.int .u64 (w8 z.1.1).a, .int .u64 (w8 z.1.1).b, .int .u64 (w8 z.1.1).c, .int .u64 (w8 z.1.1).d, .int .u64 (w8 z.1.1).e, .int .u64 (w8 z.1.1).f, .int .u64 (w8 z.1.1).g, .int .u64 (w8 z.1.1).h]) fw_wide (by rfl) (by rfl) hA (by rfl) Try.underlying37 (by rfl) (by kernel_rfl) (by kernel_rfl) ?_
      conv => arg 7; simp only [Act.put, List.setIfInBounds_toArray, List.set_cons_zero, List.set_cons_succ]
      iterate 1 (with_reducible refine wpI_v (v := ?_) fw_wide ?_ ?_ ?_ ?_; rotate_left; (· kernel_rfl); (· kernel_rfl); (· go_simp; try with_reducible rfl); conv => arg 7; simp only [Act.put, List.setIfInBounds_toArray, List.set_cons_zero, List.set_cons_succ])
      refine wpI_load (l := [.int .u64 (w8 z.1.2).a, .int .u64 (w8 z.1.2).b, .int .u64 (w8 z.1.2).c, .int .u64 (w8 z.1.2).d, .int .u64 (w8 z.1.2).e, .int .u64 (w8 z.1.2).f, .int .u64 (w8 z.1.2).g, .int .u64 (w8 z.1.2).h]) fw_wide (by rfl) (by rfl) hB (by rfl) Try.underlying37 (by rfl) (by kernel_rfl) (by kernel_rfl) ?_
      conv => arg 7; simp only [Act.put, List.setIfInBounds_toArray, List.set_cons_zero, List.set_cons_succ]
      refine wpI_yield fw_wide (by kernel_rfl) (by rfl) (by simp [Act.eval, encs]) (hY [x, y] z W2 hJ2 (by simp)) fun e W3 hr => ?_
      rcases hr with ⟨rfl, hJ3, hK3⟩ | ⟨rfl, hJ3⟩
      · refine ⟨_, rfl, ?_⟩
        conv => arg 7; simp only [Act.put, List.setIfInBounds_toArray, List.set_cons_zero, List.set_cons_succ]
        iterate 1 (with_reducible refine wpI_v (v := ?_) fw_wide ?_ ?_ ?_ ?_; rotate_left; (· kernel_rfl); (· kernel_rfl); (· go_simp; try with_reducible rfl); conv => arg 7; simp only [Act.put, List.setIfInBounds_toArray, List.set_cons_zero, List.set_cons_succ])
        refine wpListIn_nil ?_
        go_end0
        exact ⟨⟨_, rfl⟩, .inl ⟨_, rfl, hJ3⟩⟩
      · refine ⟨_, rfl, ?_⟩
        conv => arg 7; simp only [Act.put, List.setIfInBounds_toArray, List.set_cons_zero, List.set_cons_succ]
        iterate 1 (with_reducible refine wpI_v (v := ?_) fw_wide ?_ ?_ ?_ ?_; rotate_left; (· kernel_rfl); (· kernel_rfl); (· go_simp; try with_reducible rfl); conv => arg 7; simp only [Act.put, List.setIfInBounds_toArray, List.set_cons_zero, List.set_cons_succ])
        refine wpListIn_nil ?_
        go_end0
        exact ⟨⟨_, rfl⟩, .inr ⟨_, trivial, hJ3⟩⟩
    · refine ⟨_, rfl, ?_⟩
      conv => arg 7; simp only [Act.put, List.setIfInBounds_toArray, List.set_cons_zero, List.set_cons_succ]
      iterate 2 (with_reducible refine wpI_v (v := ?_) fw_wide ?_ ?_ ?_ ?_; rotate_left; (· kernel_rfl); (· kernel_rfl); (· go_simp; try with_reducible rfl); conv => arg 7; simp only [Act.put, List.setIfInBounds_toArray, List.set_cons_zero, List.set_cons_succ])
      iterate 6 (with_reducible refine wpI_skip fw_wide ?_ ?_; (· kernel_rfl); conv => arg 7; simp only [Act.put, List.setIfInBounds_toArray, List.set_cons_zero, List.set_cons_succ])
      iterate 1 (with_reducible refine wpI_v (v := ?_) fw_wide ?_ ?_ ?_ ?_; rotate_left; (· kernel_rfl); (· kernel_rfl); (· go_simp; try with_reducible rfl); conv => arg 7; simp only [Act.put, List.setIfInBounds_toArray, List.set_cons_zero, List.set_cons_succ])
      refine wpListIn_nil ?_
      go_end0
      exact ⟨⟨_, rfl⟩, .inr ⟨_, trivial, hJ2⟩⟩
  · refine ⟨_, rfl, ?_⟩
    conv => arg 7; simp only [Act.put, List.setIfInBounds_toArray, List.set_cons_zero, List.set_cons_succ]
    iterate 1 (with_reducible refine wpI_v (v := ?_) fw_wide ?_ ?_ ?_ ?_; rotate_left; (· kernel_rfl); (· kernel_rfl); (· go_simp; try with_reducible rfl); conv => arg 7; simp only [Act.put, List.setIfInBounds_toArray, List.set_cons_zero, List.set_cons_succ])
    iterate 6 (with_reducible refine wpI_skip fw_wide ?_ ?_; (· kernel_rfl); conv => arg 7; simp only [Act.put, List.setIfInBounds_toArray, List.set_cons_zero, List.set_cons_succ])
    iterate 2 (with_reducible refine wpI_v (v := ?_) fw_wide ?_ ?_ ?_ ?_; rotate_left; (· kernel_rfl); (· kernel_rfl); (· go_simp; try with_reducible rfl); conv => arg 7; simp only [Act.put, List.setIfInBounds_toArray, List.set_cons_zero, List.set_cons_succ])
    iterate 6 (with_reducible refine wpI_skip fw_wide ?_ ?_; (· kernel_rfl); conv => arg 7; simp only [Act.put, List.setIfInBounds_toArray, List.set_cons_zero, List.set_cons_succ])
    iterate 1 (with_reducible refine wpI_v (v := ?_) fw_wide ?_ ?_ ?_ ?_; rotate_left; (· kernel_rfl); (· kernel_rfl); (· go_simp; try with_reducible rfl); conv => arg 7; simp only [Act.put, List.setIfInBounds_toArray, List.set_cons_zero, List.set_cons_succ])
    refine wpListIn_nil ?_
    go_end0
    exact ⟨⟨_, rfl⟩, .inr ⟨_, trivial, hJ1⟩⟩
end GIt
end Go.Proofs.Ytbbiefgmlklafaa
