/- Integers of 512 bits as eight words: comparing, signs. No condition. -/
import Derived.Test.YtbcjnckejkjfeaaWid4
namespace Go.Proofs.Ytbcjnckejkjfeaa
set_option linter.unusedVariables false
set_option linter.unusedSimpArgs false
open Go.RowKit Go.NP
theorem cf93 (args : Array Value) (w1 : World) : (callFunc 93 args).run Try.prog w1 = .ok (.enter 93 args) w1 := enters Try.func93 (by kernel_rfl) (by kernel_rfl) args w1
def cmp8 (x y : L8) : Int := if topB x.h = topB y.h then above8 x y else if topB x.h = true then -1 else 1
set_option maxRecDepth 100000 in
set_option maxHeartbeats 2000000 in
theorem cmpC (x y : L8) (w : World) : RetB Try.prog 74 #[.agg #[.int .u64 x.a, .int .u64 x.b, .int .u64 x.c, .int .u64 x.d, .int .u64 x.e, .int .u64 x.f, .int .u64 x.g, .int .u64 x.h], .agg #[.int .u64 y.a, .int .u64 y.b, .int .u64 y.c, .int .u64 y.d, .int .u64 y.e, .int .u64 y.f, .int .u64 y.g, .int .u64 y.h]] w (.int .i64 (cmp8 x y)) := by
  unfold RetB
  have hx : topB x.h = true ∨ topB x.h = false := by cases topB x.h <;> simp
  have hy : topB y.h = true ∨ topB y.h = false := by cases topB y.h <;> simp
  rcases hx with hx | hx <;> rcases hy with hy | hy
  · have H := Lib.hid (show cmp8 x y = above8 x y by unfold cmp8; rw [hx, hy]; rfl)
    have HX := Lib.hid hx; have HY := Lib.hid hy; clear hx hy
    go_enter Try.func74, Try.ntmps74
    go_wp2
    refine wp_region_ph [(6, .free [])] (by kernel_rfl) (by kernel_rfl) ?_
    refine Ph.belowd ?_
    simp only [List.drop_succ_cons, List.drop_zero, List.take_succ_cons, List.take_zero, Nat.reduceSub, Nat.sub_zero]
    iterate 2 (refine SeqO.val (v := ?_) (by rfl) (by rfl) (fun w1 hS => ?_) ?_; rotate_left; (· obtain ⟨hc, hcf⟩ := bcell hS; go_simp; try with_reducible rfl); simp only [Act.put, List.setIfInBounds_toArray, List.set_cons_zero, List.set_cons_succ])
    refine SeqO.callv (by rfl) (by rfl) (by rfl) cf94 (by simp [Act.eval]) (fun w1 hS => (negC x w1).eq (by rw [HX.out])) ?_
    simp only [Act.put, List.setIfInBounds_toArray, List.set_cons_zero, List.set_cons_succ]
    iterate 2 (refine SeqO.val (v := ?_) (by rfl) (by rfl) (fun w1 hS => ?_) ?_; rotate_left; (· obtain ⟨hc, hcf⟩ := bcell hS; go_simp; try with_reducible rfl); simp only [Act.put, List.setIfInBounds_toArray, List.set_cons_zero, List.set_cons_succ])
    refine SeqO.callv (by rfl) (by rfl) (by rfl) cf94 (by simp [Act.eval]) (fun w1 hS => (negC y w1).eq (by rw [HY.out])) ?_
    simp only [Act.put, List.setIfInBounds_toArray, List.set_cons_zero, List.set_cons_succ]
    refine SeqO.nil0 fun w1 hS => ?_
    have hX : Box w1 w.heap.size [.int .u64 x.a, .int .u64 x.b, .int .u64 x.c, .int .u64 x.d, .int .u64 x.e, .int .u64 x.f, .int .u64 x.g, .int .u64 x.h] 110 := ((Box.new rfl).alloc _).step hS
    have hY : Box w1 (w.heap.size + 1) [.int .u64 y.a, .int .u64 y.b, .int .u64 y.c, .int .u64 y.d, .int .u64 y.e, .int .u64 y.f, .int .u64 y.g, .int .u64 y.h] 110 := (Box.new (by simp)).step hS
    have hW : Below w.heap.size w w1 := (((Below.refl _ _).alloc (Nat.le_refl _) _).alloc (by simp) _).trans (hS.mono (by simp; omega))
    have p0 := (hX).cell 0; have p1 := (hX).cell 1; have p2 := (hX).cell 2; have p3 := (hX).cell 3; have p4 := (hX).cell 4; have p5 := (hX).cell 5; have p6 := (hX).cell 6; have p7 := (hX).cell 7; have pf := (hX).free
    simp only [List.getElem?_cons_zero, List.getElem?_cons_succ] at p0 p1 p2 p3 p4 p5 p6 p7
    have q0 := (hY).cell 0; have q1 := (hY).cell 1; have q2 := (hY).cell 2; have q3 := (hY).cell 3; have q4 := (hY).cell 4; have q5 := (hY).cell 5; have q6 := (hY).cell 6; have q7 := (hY).cell 7; have qf := (hY).free
    simp only [List.getElem?_cons_zero, List.getElem?_cons_succ] at q0 q1 q2 q3 q4 q5 q6 q7
    refine Ph.last ?_
    simp only [List.drop_succ_cons, List.drop_zero, List.take_succ_cons, List.take_zero, Nat.reduceSub, Nat.sub_zero]
    clear hX hY
    go_wp2_with fail
    refine ((aboveC x y _).eq (by rw [← H.out])).mono ?_
    rintro e w2 ⟨rfl, hS2⟩
    go_wp2
    go_ret
    exact ⟨rfl, hW.trans (hS2.mono hW.size)⟩
  · have H := Lib.hid (show cmp8 x y = -1 by unfold cmp8; rw [hx, hy]; rfl)
    have HX := Lib.hid hx; have HY := Lib.hid hy; clear hx hy
    go_enter Try.func74, Try.ntmps74
    go_wp2
    refine wp_region_ph [(6, .free [])] (by kernel_rfl) (by kernel_rfl) ?_
    refine Ph.belowd ?_
    simp only [List.drop_succ_cons, List.drop_zero, List.take_succ_cons, List.take_zero, Nat.reduceSub, Nat.sub_zero]
    iterate 2 (refine SeqO.val (v := ?_) (by rfl) (by rfl) (fun w1 hS => ?_) ?_; rotate_left; (· obtain ⟨hc, hcf⟩ := bcell hS; go_simp; try with_reducible rfl); simp only [Act.put, List.setIfInBounds_toArray, List.set_cons_zero, List.set_cons_succ])
    refine SeqO.callv (by rfl) (by rfl) (by rfl) cf94 (by simp [Act.eval]) (fun w1 hS => (negC x w1).eq (by rw [HX.out])) ?_
    simp only [Act.put, List.setIfInBounds_toArray, List.set_cons_zero, List.set_cons_succ]
    iterate 2 (refine SeqO.val (v := ?_) (by rfl) (by rfl) (fun w1 hS => ?_) ?_; rotate_left; (· obtain ⟨hc, hcf⟩ := bcell hS; go_simp; try with_reducible rfl); simp only [Act.put, List.setIfInBounds_toArray, List.set_cons_zero, List.set_cons_succ])
    refine SeqO.callv (by rfl) (by rfl) (by rfl) cf94 (by simp [Act.eval]) (fun w1 hS => (negC y w1).eq (by rw [HY.out])) ?_
    simp only [Act.put, List.setIfInBounds_toArray, List.set_cons_zero, List.set_cons_succ]
    refine SeqO.nil0 fun w1 hS => ?_
    have hX : Box w1 w.heap.size [.int .u64 x.a, .int .u64 x.b, .int .u64 x.c, .int .u64 x.d, .int .u64 x.e, .int .u64 x.f, .int .u64 x.g, .int .u64 x.h] 110 := ((Box.new rfl).alloc _).step hS
    have hY : Box w1 (w.heap.size + 1) [.int .u64 y.a, .int .u64 y.b, .int .u64 y.c, .int .u64 y.d, .int .u64 y.e, .int .u64 y.f, .int .u64 y.g, .int .u64 y.h] 110 := (Box.new (by simp)).step hS
    have hW : Below w.heap.size w w1 := (((Below.refl _ _).alloc (Nat.le_refl _) _).alloc (by simp) _).trans (hS.mono (by simp; omega))
    have p0 := (hX).cell 0; have p1 := (hX).cell 1; have p2 := (hX).cell 2; have p3 := (hX).cell 3; have p4 := (hX).cell 4; have p5 := (hX).cell 5; have p6 := (hX).cell 6; have p7 := (hX).cell 7; have pf := (hX).free
    simp only [List.getElem?_cons_zero, List.getElem?_cons_succ] at p0 p1 p2 p3 p4 p5 p6 p7
    have q0 := (hY).cell 0; have q1 := (hY).cell 1; have q2 := (hY).cell 2; have q3 := (hY).cell 3; have q4 := (hY).cell 4; have q5 := (hY).cell 5; have q6 := (hY).cell 6; have q7 := (hY).cell 7; have qf := (hY).free
    simp only [List.getElem?_cons_zero, List.getElem?_cons_succ] at q0 q1 q2 q3 q4 q5 q6 q7
    refine Ph.last ?_
    simp only [List.drop_succ_cons, List.drop_zero, List.take_succ_cons, List.take_zero, Nat.reduceSub, Nat.sub_zero]
    clear hX hY
    go_wp2
    go_ret
    exact ⟨retI (by rw [H.out]), hW⟩
  · have H := Lib.hid (show cmp8 x y = 1 by unfold cmp8; rw [hx, hy]; rfl)
    have HX := Lib.hid hx; have HY := Lib.hid hy; clear hx hy
    go_enter Try.func74, Try.ntmps74
    go_wp2
    refine wp_region_ph [(6, .free [])] (by kernel_rfl) (by kernel_rfl) ?_
    refine Ph.belowd ?_
    simp only [List.drop_succ_cons, List.drop_zero, List.take_succ_cons, List.take_zero, Nat.reduceSub, Nat.sub_zero]
    iterate 2 (refine SeqO.val (v := ?_) (by rfl) (by rfl) (fun w1 hS => ?_) ?_; rotate_left; (· obtain ⟨hc, hcf⟩ := bcell hS; go_simp; try with_reducible rfl); simp only [Act.put, List.setIfInBounds_toArray, List.set_cons_zero, List.set_cons_succ])
    refine SeqO.callv (by rfl) (by rfl) (by rfl) cf94 (by simp [Act.eval]) (fun w1 hS => (negC x w1).eq (by rw [HX.out])) ?_
    simp only [Act.put, List.setIfInBounds_toArray, List.set_cons_zero, List.set_cons_succ]
    iterate 2 (refine SeqO.val (v := ?_) (by rfl) (by rfl) (fun w1 hS => ?_) ?_; rotate_left; (· obtain ⟨hc, hcf⟩ := bcell hS; go_simp; try with_reducible rfl); simp only [Act.put, List.setIfInBounds_toArray, List.set_cons_zero, List.set_cons_succ])
    refine SeqO.callv (by rfl) (by rfl) (by rfl) cf94 (by simp [Act.eval]) (fun w1 hS => (negC y w1).eq (by rw [HY.out])) ?_
    simp only [Act.put, List.setIfInBounds_toArray, List.set_cons_zero, List.set_cons_succ]
    refine SeqO.nil0 fun w1 hS => ?_
    have hX : Box w1 w.heap.size [.int .u64 x.a, .int .u64 x.b, .int .u64 x.c, .int .u64 x.d, .int .u64 x.e, .int .u64 x.f, .int .u64 x.g, .int .u64 x.h] 110 := ((Box.new rfl).alloc _).step hS
    have hY : Box w1 (w.heap.size + 1) [.int .u64 y.a, .int .u64 y.b, .int .u64 y.c, .int .u64 y.d, .int .u64 y.e, .int .u64 y.f, .int .u64 y.g, .int .u64 y.h] 110 := (Box.new (by simp)).step hS
    have hW : Below w.heap.size w w1 := (((Below.refl _ _).alloc (Nat.le_refl _) _).alloc (by simp) _).trans (hS.mono (by simp; omega))
    have p0 := (hX).cell 0; have p1 := (hX).cell 1; have p2 := (hX).cell 2; have p3 := (hX).cell 3; have p4 := (hX).cell 4; have p5 := (hX).cell 5; have p6 := (hX).cell 6; have p7 := (hX).cell 7; have pf := (hX).free
    simp only [List.getElem?_cons_zero, List.getElem?_cons_succ] at p0 p1 p2 p3 p4 p5 p6 p7
    have q0 := (hY).cell 0; have q1 := (hY).cell 1; have q2 := (hY).cell 2; have q3 := (hY).cell 3; have q4 := (hY).cell 4; have q5 := (hY).cell 5; have q6 := (hY).cell 6; have q7 := (hY).cell 7; have qf := (hY).free
    simp only [List.getElem?_cons_zero, List.getElem?_cons_succ] at q0 q1 q2 q3 q4 q5 q6 q7
    refine Ph.last ?_
    simp only [List.drop_succ_cons, List.drop_zero, List.take_succ_cons, List.take_zero, Nat.reduceSub, Nat.sub_zero]
    clear hX hY
    go_wp2
    go_ret
    exact ⟨retI (by rw [H.out]), hW⟩
  · have H := Lib.hid (show cmp8 x y = above8 x y by unfold cmp8; rw [hx, hy]; rfl)
    have HX := Lib.hid hx; have HY := Lib.hid hy; clear hx hy
    go_enter Try.func74, Try.ntmps74
    go_wp2
    refine wp_region_ph [(6, .free [])] (by kernel_rfl) (by kernel_rfl) ?_
    refine Ph.belowd ?_
    simp only [List.drop_succ_cons, List.drop_zero, List.take_succ_cons, List.take_zero, Nat.reduceSub, Nat.sub_zero]
    iterate 2 (refine SeqO.val (v := ?_) (by rfl) (by rfl) (fun w1 hS => ?_) ?_; rotate_left; (· obtain ⟨hc, hcf⟩ := bcell hS; go_simp; try with_reducible rfl); simp only [Act.put, List.setIfInBounds_toArray, List.set_cons_zero, List.set_cons_succ])
    refine SeqO.callv (by rfl) (by rfl) (by rfl) cf94 (by simp [Act.eval]) (fun w1 hS => (negC x w1).eq (by rw [HX.out])) ?_
    simp only [Act.put, List.setIfInBounds_toArray, List.set_cons_zero, List.set_cons_succ]
    iterate 2 (refine SeqO.val (v := ?_) (by rfl) (by rfl) (fun w1 hS => ?_) ?_; rotate_left; (· obtain ⟨hc, hcf⟩ := bcell hS; go_simp; try with_reducible rfl); simp only [Act.put, List.setIfInBounds_toArray, List.set_cons_zero, List.set_cons_succ])
    refine SeqO.callv (by rfl) (by rfl) (by rfl) cf94 (by simp [Act.eval]) (fun w1 hS => (negC y w1).eq (by rw [HY.out])) ?_
    simp only [Act.put, List.setIfInBounds_toArray, List.set_cons_zero, List.set_cons_succ]
    refine SeqO.nil0 fun w1 hS => ?_
    have hX : Box w1 w.heap.size [.int .u64 x.a, .int .u64 x.b, .int .u64 x.c, .int .u64 x.d, .int .u64 x.e, .int .u64 x.f, .int .u64 x.g, .int .u64 x.h] 110 := ((Box.new rfl).alloc _).step hS
    have hY : Box w1 (w.heap.size + 1) [.int .u64 y.a, .int .u64 y.b, .int .u64 y.c, .int .u64 y.d, .int .u64 y.e, .int .u64 y.f, .int .u64 y.g, .int .u64 y.h] 110 := (Box.new (by simp)).step hS
    have hW : Below w.heap.size w w1 := (((Below.refl _ _).alloc (Nat.le_refl _) _).alloc (by simp) _).trans (hS.mono (by simp; omega))
    have p0 := (hX).cell 0; have p1 := (hX).cell 1; have p2 := (hX).cell 2; have p3 := (hX).cell 3; have p4 := (hX).cell 4; have p5 := (hX).cell 5; have p6 := (hX).cell 6; have p7 := (hX).cell 7; have pf := (hX).free
    simp only [List.getElem?_cons_zero, List.getElem?_cons_succ] at p0 p1 p2 p3 p4 p5 p6 p7
    have q0 := (hY).cell 0; have q1 := (hY).cell 1; have q2 := (hY).cell 2; have q3 := (hY).cell 3; have q4 := (hY).cell 4; have q5 := (hY).cell 5; have q6 := (hY).cell 6; have q7 := (hY).cell 7; have qf := (hY).free
    simp only [List.getElem?_cons_zero, List.getElem?_cons_succ] at q0 q1 q2 q3 q4 q5 q6 q7
    refine Ph.last ?_
    simp only [List.drop_succ_cons, List.drop_zero, List.take_succ_cons, List.take_zero, Nat.reduceSub, Nat.sub_zero]
    clear hX hY
    go_wp2_with fail
    refine ((aboveC x y _).eq (by rw [← H.out])).mono ?_
    rintro e w2 ⟨rfl, hS2⟩
    go_wp2
    go_ret
    exact ⟨rfl, hW.trans (hS2.mono hW.size)⟩
theorem L8.ext' {x y : L8} (ha : x.a = y.a) (hb : x.b = y.b) (hc : x.c = y.c) (hd : x.d = y.d) (he : x.e = y.e) (hf : x.f = y.f) (hg : x.g = y.g) (hh : x.h = y.h) : x = y := by
  cases x; cases y; simp_all
theorem eq8 (x y : L8) (w : World) : (Op.equalIn 10000 128 (.agg #[.int .u64 x.a, .int .u64 x.b, .int .u64 x.c, .int .u64 x.d, .int .u64 x.e, .int .u64 x.f, .int .u64 x.g, .int .u64 x.h]) (.agg #[.int .u64 y.a, .int .u64 y.b, .int .u64 y.c, .int .u64 y.d, .int .u64 y.e, .int .u64 y.f, .int .u64 y.g, .int .u64 y.h])).run Try.prog w = .ok (x.a == y.a && (x.b == y.b && (x.c == y.c && (x.d == y.d && (x.e == y.e && (x.f == y.f && (x.g == y.g && x.h == y.h))))))) w := by
  have u3 := Try.underlying106
  have a3 := Try.isAgg106
  have z3 := Try.sizeOf106
  rw [show (10000 : Nat) = 9999 + 1 from rfl, Op.equalIn]
  simp only [Sem.run_bind, run_underlying Try.underlying128, Result.andThen_ok]
  simp only [Std.Legacy.Range.forIn_eq_forIn_range', Std.Legacy.Range.size, Nat.sub_zero, Nat.add_sub_cancel, Nat.div_one, List.range'_succ, List.range'_zero, List.forIn_cons, List.forIn_nil]
  go_simp
  by_cases h0 : x.a = y.a
  rotate_left
  · simp [h0]
  by_cases h1 : x.b = y.b
  rotate_left
  · simp [h0, h1]
  by_cases h2 : x.c = y.c
  rotate_left
  · simp [h0, h1, h2]
  by_cases h3 : x.d = y.d
  rotate_left
  · simp [h0, h1, h2, h3]
  by_cases h4 : x.e = y.e
  rotate_left
  · simp [h0, h1, h2, h3, h4]
  by_cases h5 : x.f = y.f
  rotate_left
  · simp [h0, h1, h2, h3, h4, h5]
  by_cases h6 : x.g = y.g
  rotate_left
  · simp [h0, h1, h2, h3, h4, h5, h6]
  by_cases h7 : x.h = y.h
  rotate_left
  · simp [h0, h1, h2, h3, h4, h5, h6, h7]
  simp [h0, h1, h2, h3, h4, h5, h6, h7]
theorem neq8 (x : L8) (h : ¬ x = z8) (w : World) : (binOp .neq 128 (.agg #[.int .u64 x.a, .int .u64 x.b, .int .u64 x.c, .int .u64 x.d, .int .u64 x.e, .int .u64 x.f, .int .u64 x.g, .int .u64 x.h]) (.agg #[.int .u64 0, .int .u64 0, .int .u64 0, .int .u64 0, .int .u64 0, .int .u64 0, .int .u64 0, .int .u64 0])).run Try.prog w = .ok (.bool true) w := by
  have h' : ¬ (x.a = 0 ∧ x.b = 0 ∧ x.c = 0 ∧ x.d = 0 ∧ x.e = 0 ∧ x.f = 0 ∧ x.g = 0 ∧ x.h = 0) := fun ⟨a, b, c, d, e, f, g, i⟩ => h (L8.ext' a b c d e f g i)
  have hb : (x.a == 0 && (x.b == 0 && (x.c == 0 && (x.d == 0 && (x.e == 0 && (x.f == 0 && (x.g == 0 && x.h == 0))))))) = false := by
    rw [Bool.eq_false_iff]
    intro hh
    simp only [Bool.and_eq_true, beq_iff_eq] at hh
    exact h' hh
  rw [run_neq_struct]
  have := eq8 x z8 w
  simp only [z8] at this
  rw [this, hb]
  rfl
theorem neq8z (w : World) : (binOp .neq 128 (.agg #[.int .u64 z8.a, .int .u64 z8.b, .int .u64 z8.c, .int .u64 z8.d, .int .u64 z8.e, .int .u64 z8.f, .int .u64 z8.g, .int .u64 z8.h]) (.agg #[.int .u64 0, .int .u64 0, .int .u64 0, .int .u64 0, .int .u64 0, .int .u64 0, .int .u64 0, .int .u64 0])).run Try.prog w = .ok (.bool false) w := by
  rw [run_neq_struct]
  have := eq8 z8 z8 w
  simp only [z8] at this ⊢
  rw [this]
  simp [Result.andThen]
/-- The number of a size: it is below, or not. -/
def sgn8 (x : L8) (below : Bool) : L8 := if below = true then minus8 x else x
set_option maxRecDepth 100000 in
set_option maxHeartbeats 2000000 in
theorem signedC (x : L8) (hx : x.ok) (below : Bool) (hb : sgn8 x below = z8 ∨ topB (sgn8 x below).h = below) (w : World) : RetB Try.prog 93 #[.agg #[.int .u64 x.a, .int .u64 x.b, .int .u64 x.c, .int .u64 x.d, .int .u64 x.e, .int .u64 x.f, .int .u64 x.g, .int .u64 x.h], .bool below] w (.agg #[.int .u64 (sgn8 x below).a, .int .u64 (sgn8 x below).b, .int .u64 (sgn8 x below).c, .int .u64 (sgn8 x below).d, .int .u64 (sgn8 x below).e, .int .u64 (sgn8 x below).f, .int .u64 (sgn8 x below).g, .int .u64 (sgn8 x below).h]) := by
  have hz := neq8z
  unfold RetB
  cases below with
  | false =>
    have e : sgn8 x false = x := rfl
    rw [e] at hb ⊢
    clear e
    by_cases h0 : x = z8
    · clear hb
      subst h0
      go_enter Try.func93, Try.ntmps93
      go_wp2
      exact bodyPost_ret (v := .agg #[.int .u64 z8.a, .int .u64 z8.b, .int .u64 z8.c, .int .u64 z8.d, .int .u64 z8.e, .int .u64 z8.f, .int .u64 z8.g, .int .u64 z8.h]) (by simp [results, Try.results93, go_sem]) rfl ⟨rfl, (((Below.refl _ _).alloc (Nat.le_refl _) _).alloc (by simp) _)⟩
    · have hn := neq8 x h0
      have ht : topB x.h = false := hb.resolve_left h0
      have HT := Lib.hid ht
      clear hb ht h0
      go_enter Try.func93, Try.ntmps93
      go_wp2_with fail
      refine ((negC x _).eq (by rw [HT.out])).mono ?_
      rintro e w1 ⟨rfl, hS⟩
      have hW : Below w.heap.size w w1 := (((Below.refl _ _).alloc (Nat.le_refl _) _).alloc (by simp) _).trans (hS.mono (by simp; omega))
      have hX : Box w1 w.heap.size [.int .u64 x.a, .int .u64 x.b, .int .u64 x.c, .int .u64 x.d, .int .u64 x.e, .int .u64 x.f, .int .u64 x.g, .int .u64 x.h] 128 := ((Box.new rfl).alloc _).step hS
      have hR : Box w1 (w.heap.size + 1) _ _ := (Box.new (by simp)).step hS
      have p0 := (hX).cell 0; have p1 := (hX).cell 1; have p2 := (hX).cell 2; have p3 := (hX).cell 3; have p4 := (hX).cell 4; have p5 := (hX).cell 5; have p6 := (hX).cell 6; have p7 := (hX).cell 7; have pf := (hX).free
      simp only [List.getElem?_cons_zero, List.getElem?_cons_succ] at p0 p1 p2 p3 p4 p5 p6 p7
      have q0 := (hR).cell 0; have q1 := (hR).cell 1; have q2 := (hR).cell 2; have q3 := (hR).cell 3; have q4 := (hR).cell 4; have q5 := (hR).cell 5; have q6 := (hR).cell 6; have q7 := (hR).cell 7; have qf := (hR).free
      simp only [List.getElem?_cons_zero, List.getElem?_cons_succ] at q0 q1 q2 q3 q4 q5 q6 q7
      clear hX hR
      go_wp2
      exact bodyPost_ret (v := .agg #[.int .u64 x.a, .int .u64 x.b, .int .u64 x.c, .int .u64 x.d, .int .u64 x.e, .int .u64 x.f, .int .u64 x.g, .int .u64 x.h]) (by simp [results, Try.results93, go_sem, *]) rfl ⟨rfl, ((((((((hW).setCell (by first | omega | (simp; done) | (simp; omega)) _).setCell (by first | omega | (simp; done) | (simp; omega)) _).setCell (by first | omega | (simp; done) | (simp; omega)) _).setCell (by first | omega | (simp; done) | (simp; omega)) _).setCell (by first | omega | (simp; done) | (simp; omega)) _).setCell (by first | omega | (simp; done) | (simp; omega)) _).setCell (by first | omega | (simp; done) | (simp; omega)) _).setCell (by first | omega | (simp; done) | (simp; omega)) _⟩
  | true =>
    have e : sgn8 x true = minus8 x := rfl
    rw [e] at hb ⊢
    clear e
    by_cases h0 : minus8 x = z8
    · clear hb
      have H0 := Lib.hid h0
      clear h0
      go_enter Try.func93, Try.ntmps93
      go_wp2_with fail
      refine ((minusC x hx _).eq (by rw [H0.out])).mono ?_
      rintro e w1 ⟨rfl, hS⟩
      have hW : Below w.heap.size w w1 := (((Below.refl _ _).alloc (Nat.le_refl _) _).alloc (by simp) _).trans (hS.mono (by simp; omega))
      have hX : Box w1 w.heap.size [.int .u64 x.a, .int .u64 x.b, .int .u64 x.c, .int .u64 x.d, .int .u64 x.e, .int .u64 x.f, .int .u64 x.g, .int .u64 x.h] 128 := ((Box.new rfl).alloc _).step hS
      have hR : Box w1 (w.heap.size + 1) _ _ := (Box.new (by simp)).step hS
      have hX2 := Lib.hid (((((((((hX.set 0 (.int .u64 z8.a)).set 1 (.int .u64 z8.b)).set 2 (.int .u64 z8.c)).set 3 (.int .u64 z8.d)).set 4 (.int .u64 z8.e)).set 5 (.int .u64 z8.f)).set 6 (.int .u64 z8.g)).set 7 (.int .u64 z8.h)))
      have hZ := hR.lt
      have p0 := (hX).cell 0; have p1 := (hX).cell 1; have p2 := (hX).cell 2; have p3 := (hX).cell 3; have p4 := (hX).cell 4; have p5 := (hX).cell 5; have p6 := (hX).cell 6; have p7 := (hX).cell 7; have pf := (hX).free
      simp only [List.getElem?_cons_zero, List.getElem?_cons_succ] at p0 p1 p2 p3 p4 p5 p6 p7
      have q0 := (hR).cell 0; have q1 := (hR).cell 1; have q2 := (hR).cell 2; have q3 := (hR).cell 3; have q4 := (hR).cell 4; have q5 := (hR).cell 5; have q6 := (hR).cell 6; have q7 := (hR).cell 7; have qf := (hR).free
      simp only [List.getElem?_cons_zero, List.getElem?_cons_succ] at q0 q1 q2 q3 q4 q5 q6 q7
      clear hX hR
      go_wp2
      rw [H0.out]
      exact bodyPost_ret (v := .agg #[.int .u64 z8.a, .int .u64 z8.b, .int .u64 z8.c, .int .u64 z8.d, .int .u64 z8.e, .int .u64 z8.f, .int .u64 z8.g, .int .u64 z8.h]) (by simp [results, Try.results93, go_sem, *]) rfl ⟨rfl, ((((((((((((((((hW).setCell (by first | omega | (simp; done) | (simp; omega)) _).setCell (by first | omega | (simp; done) | (simp; omega)) _).setCell (by first | omega | (simp; done) | (simp; omega)) _).setCell (by first | omega | (simp; done) | (simp; omega)) _).setCell (by first | omega | (simp; done) | (simp; omega)) _).setCell (by first | omega | (simp; done) | (simp; omega)) _).setCell (by first | omega | (simp; done) | (simp; omega)) _).setCell (by first | omega | (simp; done) | (simp; omega)) _).setCell (by first | omega | (simp; done) | (simp; omega)) _).setCell (by first | omega | (simp; done) | (simp; omega)) _).setCell (by first | omega | (simp; done) | (simp; omega)) _).setCell (by first | omega | (simp; done) | (simp; omega)) _).setCell (by first | omega | (simp; done) | (simp; omega)) _).setCell (by first | omega | (simp; done) | (simp; omega)) _).setCell (by first | omega | (simp; done) | (simp; omega)) _).setCell (by first | omega | (simp; done) | (simp; omega)) _⟩
    · have hn := neq8 _ h0
      have ht : topB (minus8 x).h = true := hb.resolve_left h0
      have HT := Lib.hid ht
      clear hb ht h0
      have hm : (minus8 x).ok := plus8_ok
      generalize hg : minus8 x = m at *
      have HG := Lib.hid hg
      clear hg
      go_enter Try.func93, Try.ntmps93
      go_wp2_with fail
      refine ((minusC x hx _).eq (by rw [HG.out])).mono ?_
      rintro e w1 ⟨rfl, hS⟩
      have hW : Below w.heap.size w w1 := (((Below.refl _ _).alloc (Nat.le_refl _) _).alloc (by simp) _).trans (hS.mono (by simp; omega))
      have hX : Box w1 w.heap.size [.int .u64 x.a, .int .u64 x.b, .int .u64 x.c, .int .u64 x.d, .int .u64 x.e, .int .u64 x.f, .int .u64 x.g, .int .u64 x.h] 128 := ((Box.new rfl).alloc _).step hS
      have hR : Box w1 (w.heap.size + 1) _ _ := (Box.new (by simp)).step hS
      have p0 := (hX).cell 0; have p1 := (hX).cell 1; have p2 := (hX).cell 2; have p3 := (hX).cell 3; have p4 := (hX).cell 4; have p5 := (hX).cell 5; have p6 := (hX).cell 6; have p7 := (hX).cell 7; have pf := (hX).free
      simp only [List.getElem?_cons_zero, List.getElem?_cons_succ] at p0 p1 p2 p3 p4 p5 p6 p7
      have q0 := (hR).cell 0; have q1 := (hR).cell 1; have q2 := (hR).cell 2; have q3 := (hR).cell 3; have q4 := (hR).cell 4; have q5 := (hR).cell 5; have q6 := (hR).cell 6; have q7 := (hR).cell 7; have qf := (hR).free
      simp only [List.getElem?_cons_zero, List.getElem?_cons_succ] at q0 q1 q2 q3 q4 q5 q6 q7
      have HX := Lib.hid hX; have HRR := Lib.hid hR
      clear hX hR
      go_wp2_with fail
      refine ((negC m _).eq (by rw [HT.out])).mono ?_
      rintro e w2 ⟨rfl, hS2⟩
      have hX2 : Box w2 w.heap.size [.int .u64 m.a, .int .u64 m.b, .int .u64 m.c, .int .u64 m.d, .int .u64 m.e, .int .u64 m.f, .int .u64 m.g, .int .u64 m.h] 128 := ((((((((HX.out.set 0 _).set 1 _).set 2 _).set 3 _).set 4 _).set 5 _).set 6 _).set 7 _).step hS2
      have hR2 : Box w2 (w.heap.size + 1) _ _ := ((((((((HRR.out.other (by simp) _).other (by simp) _).other (by simp) _).other (by simp) _).other (by simp) _).other (by simp) _).other (by simp) _).other (by simp) _).step hS2
      have hZ := HX.out.lt
      clear p0 p1 p2 p3 p4 p5 p6 p7 pf
      clear q0 q1 q2 q3 q4 q5 q6 q7 qf
      have p0 := (hX2).cell 0; have p1 := (hX2).cell 1; have p2 := (hX2).cell 2; have p3 := (hX2).cell 3; have p4 := (hX2).cell 4; have p5 := (hX2).cell 5; have p6 := (hX2).cell 6; have p7 := (hX2).cell 7; have pf := (hX2).free
      simp only [List.getElem?_cons_zero, List.getElem?_cons_succ] at p0 p1 p2 p3 p4 p5 p6 p7
      have q0 := (hR2).cell 0; have q1 := (hR2).cell 1; have q2 := (hR2).cell 2; have q3 := (hR2).cell 3; have q4 := (hR2).cell 4; have q5 := (hR2).cell 5; have q6 := (hR2).cell 6; have q7 := (hR2).cell 7; have qf := (hR2).free
      simp only [List.getElem?_cons_zero, List.getElem?_cons_succ] at q0 q1 q2 q3 q4 q5 q6 q7
      have hW2 : Below w.heap.size w w2 := (((((((((hW).setCell (by first | omega | (simp; done) | (simp; omega)) _).setCell (by first | omega | (simp; done) | (simp; omega)) _).setCell (by first | omega | (simp; done) | (simp; omega)) _).setCell (by first | omega | (simp; done) | (simp; omega)) _).setCell (by first | omega | (simp; done) | (simp; omega)) _).setCell (by first | omega | (simp; done) | (simp; omega)) _).setCell (by first | omega | (simp; done) | (simp; omega)) _).setCell (by first | omega | (simp; done) | (simp; omega)) _).trans (hS2.mono (by simp; omega))
      clear hX2 hR2
      go_wp2
      exact bodyPost_ret (v := .agg #[.int .u64 m.a, .int .u64 m.b, .int .u64 m.c, .int .u64 m.d, .int .u64 m.e, .int .u64 m.f, .int .u64 m.g, .int .u64 m.h]) (by simp [results, Try.results93, go_sem, *]) rfl ⟨rfl, ((((((((hW2).setCell (by first | omega | (simp; done) | (simp; omega)) _).setCell (by first | omega | (simp; done) | (simp; omega)) _).setCell (by first | omega | (simp; done) | (simp; omega)) _).setCell (by first | omega | (simp; done) | (simp; omega)) _).setCell (by first | omega | (simp; done) | (simp; omega)) _).setCell (by first | omega | (simp; done) | (simp; omega)) _).setCell (by first | omega | (simp; done) | (simp; omega)) _).setCell (by first | omega | (simp; done) | (simp; omega)) _⟩
end Go.Proofs.Ytbcjnckejkjfeaa
