/- The join of bounds is the least that holds both: the law's walk. No condition. -/
import Derived.Test.YtegmfmonkaimcaaLaw1
import Derived.Test.YtegmfmonkaimcaaAwk
namespace Go.Proofs.Ytegmfmonkaimcaa
set_option linter.unusedVariables false
set_option linter.unusedSimpArgs false
open Go.RowKit Go.NP
theorem cf11 (args : Array Value) (w1 : World) : (callFunc 11 args).run Try.prog w1 = .ok (.enter 11 args) w1 := enters Try.func11 (by kernel_rfl) (by kernel_rfl) args w1
set_option maxRecDepth 100000 in
set_option maxHeartbeats 2000000 in
theorem least_no1 (a b c : Bd) (r : Int) (w : World) (ha : ¬ a.ok) : RetB Try.prog 7 #[.agg #[.int .i64 a.lo.x, .int .i64 a.lo.y, .int .i64 a.lo.z, .int .i64 a.hi.x, .int .i64 a.hi.y, .int .i64 a.hi.z], .agg #[.int .i64 b.lo.x, .int .i64 b.lo.y, .int .i64 b.lo.z, .int .i64 b.hi.x, .int .i64 b.hi.y, .int .i64 b.hi.z], .agg #[.int .i64 c.lo.x, .int .i64 c.lo.y, .int .i64 c.lo.z, .int .i64 c.hi.x, .int .i64 c.hi.y, .int .i64 c.hi.z], .int .i64 r] w (.bool true) := by
  unfold RetB
  go_enter Try.func7, Try.ntmps7
  go_wp2_with fail
  refine (bcheck_no a _ ha).mono ?_
  rintro e w1 ⟨rfl, hS⟩
  have hA : Box w1 w.heap.size [.int .i64 a.lo.x, .int .i64 a.lo.y, .int .i64 a.lo.z, .int .i64 a.hi.x, .int .i64 a.hi.y, .int .i64 a.hi.z] 26 := (((Box.new rfl).alloc _).alloc _).step hS
  have hB : Box w1 (w.heap.size + 1) [.int .i64 b.lo.x, .int .i64 b.lo.y, .int .i64 b.lo.z, .int .i64 b.hi.x, .int .i64 b.hi.y, .int .i64 b.hi.z] 26 := ((Box.new (by simp)).alloc _).step hS
  have hW : Below w.heap.size w w1 := ((((Below.refl _ _).alloc (Nat.le_refl _) _).alloc (by simp) _).alloc (by simp; omega) _).trans (hS.mono (by simp; omega))
  have x0 := (hA).cell 0; have x1 := (hA).cell 1; have x2 := (hA).cell 2; have x3 := (hA).cell 3; have x4 := (hA).cell 4; have x5 := (hA).cell 5; have xf := (hA).free
  simp only [List.getElem?_cons_zero, List.getElem?_cons_succ] at x0 x1 x2 x3 x4 x5
  have y0 := (hB).cell 0; have y1 := (hB).cell 1; have y2 := (hB).cell 2; have y3 := (hB).cell 3; have y4 := (hB).cell 4; have y5 := (hB).cell 5; have yf := (hB).free
  simp only [List.getElem?_cons_zero, List.getElem?_cons_succ] at y0 y1 y2 y3 y4 y5
  clear hS
  go_wp2_with fail
  refine ((joinC a b _).eq (v' := .agg #[.int .i64 bzero.lo.x, .int .i64 bzero.lo.y, .int .i64 bzero.lo.z, .int .i64 bzero.hi.x, .int .i64 bzero.hi.y, .int .i64 bzero.hi.z]) (by rw [show join a b = bzero from if_neg fun h => ha h.1])).mono ?_
  rintro e w2 ⟨rfl, hS⟩
  have hW2 := hW.trans (hS.mono hW.size)
  go_wp2_with fail
  refine (awakeC _).mono ?_
  rintro e w3 ⟨rfl, hS⟩
  have hW3 := hW2.trans (hS.mono hW2.size)
  go_wp2
  exact bodyPost_ret (v := .bool true) (by simp [results, Try.results7, go_sem]) rfl ⟨rfl, hW3⟩
set_option maxRecDepth 100000 in
set_option maxHeartbeats 2000000 in
theorem least_no2 (a b c : Bd) (r : Int) (w : World) (ha : a.ok) (hb : ¬ b.ok) : RetB Try.prog 7 #[.agg #[.int .i64 a.lo.x, .int .i64 a.lo.y, .int .i64 a.lo.z, .int .i64 a.hi.x, .int .i64 a.hi.y, .int .i64 a.hi.z], .agg #[.int .i64 b.lo.x, .int .i64 b.lo.y, .int .i64 b.lo.z, .int .i64 b.hi.x, .int .i64 b.hi.y, .int .i64 b.hi.z], .agg #[.int .i64 c.lo.x, .int .i64 c.lo.y, .int .i64 c.lo.z, .int .i64 c.hi.x, .int .i64 c.hi.y, .int .i64 c.hi.z], .int .i64 r] w (.bool true) := by
  unfold RetB
  go_enter Try.func7, Try.ntmps7
  go_wp2_with fail
  refine (bcheck_ok a _ ha).mono ?_
  rintro e w1 ⟨rfl, hS⟩
  have hA : Box w1 w.heap.size [.int .i64 a.lo.x, .int .i64 a.lo.y, .int .i64 a.lo.z, .int .i64 a.hi.x, .int .i64 a.hi.y, .int .i64 a.hi.z] 26 := (((Box.new rfl).alloc _).alloc _).step hS
  have hB : Box w1 (w.heap.size + 1) [.int .i64 b.lo.x, .int .i64 b.lo.y, .int .i64 b.lo.z, .int .i64 b.hi.x, .int .i64 b.hi.y, .int .i64 b.hi.z] 26 := ((Box.new (by simp)).alloc _).step hS
  have hW : Below w.heap.size w w1 := ((((Below.refl _ _).alloc (Nat.le_refl _) _).alloc (by simp) _).alloc (by simp; omega) _).trans (hS.mono (by simp; omega))
  have y0 := (hB).cell 0; have y1 := (hB).cell 1; have y2 := (hB).cell 2; have y3 := (hB).cell 3; have y4 := (hB).cell 4; have y5 := (hB).cell 5; have yf := (hB).free
  simp only [List.getElem?_cons_zero, List.getElem?_cons_succ] at y0 y1 y2 y3 y4 y5
  clear hS
  go_wp2_with fail
  refine (bcheck_no b _ hb).mono ?_
  rintro e w2 ⟨rfl, hS⟩
  have hA2 := hA.step hS
  have hB2 := hB.step hS
  have hW2 := hW.trans (hS.mono hW.size)
  clear y0 y1 y2 y3 y4 y5 yf
  clear hS hA hB
  have x0 := (hA2).cell 0; have x1 := (hA2).cell 1; have x2 := (hA2).cell 2; have x3 := (hA2).cell 3; have x4 := (hA2).cell 4; have x5 := (hA2).cell 5; have xf := (hA2).free
  simp only [List.getElem?_cons_zero, List.getElem?_cons_succ] at x0 x1 x2 x3 x4 x5
  have y0 := (hB2).cell 0; have y1 := (hB2).cell 1; have y2 := (hB2).cell 2; have y3 := (hB2).cell 3; have y4 := (hB2).cell 4; have y5 := (hB2).cell 5; have yf := (hB2).free
  simp only [List.getElem?_cons_zero, List.getElem?_cons_succ] at y0 y1 y2 y3 y4 y5
  go_wp2_with fail
  refine ((joinC a b _).eq (v' := .agg #[.int .i64 bzero.lo.x, .int .i64 bzero.lo.y, .int .i64 bzero.lo.z, .int .i64 bzero.hi.x, .int .i64 bzero.hi.y, .int .i64 bzero.hi.z]) (by rw [show join a b = bzero from if_neg fun h => hb h.2])).mono ?_
  rintro e w3 ⟨rfl, hS⟩
  have hW3 := hW2.trans (hS.mono hW2.size)
  go_wp2_with fail
  refine (awakeC _).mono ?_
  rintro e w4 ⟨rfl, hS⟩
  have hW4 := hW3.trans (hS.mono hW3.size)
  go_wp2
  exact bodyPost_ret (v := .bool true) (by simp [results, Try.results7, go_sem]) rfl ⟨rfl, hW4⟩
set_option maxRecDepth 100000 in
set_option maxHeartbeats 4000000 in
theorem least_ok (a b c : Bd) (r : Int) (w : World) (ha : a.ok) (hb : b.ok) : RetB Try.prog 7 #[.agg #[.int .i64 a.lo.x, .int .i64 a.lo.y, .int .i64 a.lo.z, .int .i64 a.hi.x, .int .i64 a.hi.y, .int .i64 a.hi.z], .agg #[.int .i64 b.lo.x, .int .i64 b.lo.y, .int .i64 b.lo.z, .int .i64 b.hi.x, .int .i64 b.hi.y, .int .i64 b.hi.z], .agg #[.int .i64 c.lo.x, .int .i64 c.lo.y, .int .i64 c.lo.z, .int .i64 c.hi.x, .int .i64 c.hi.y, .int .i64 c.hi.z], .int .i64 r] w (.bool true) := by
  have F1 := Lib.hid (join_isok ha hb)
  have F2 := Lib.hid (holds_join_l ha hb)
  have F3 := Lib.hid (holds_join_r ha hb)
  have F4 := Lib.hid (join_comm b a)
  have F5 := Lib.hid (join_self ha)
  have F6 := Lib.hid (holds_of_join (c := c) ha hb)
  have F7 := Lib.hid (holds_grow ha r)
  have F8 := Lib.hid (show join a b = join a b from rfl)
  unfold RetB
  go_enter Try.func7, Try.ntmps7
  go_wp2_with fail
  refine (bcheck_ok a _ ha).mono ?_
  rintro e w1 ⟨rfl, hS⟩
  have hA : Box w1 w.heap.size [.int .i64 a.lo.x, .int .i64 a.lo.y, .int .i64 a.lo.z, .int .i64 a.hi.x, .int .i64 a.hi.y, .int .i64 a.hi.z] 26 := (((Box.new rfl).alloc _).alloc _).step hS
  have hB : Box w1 (w.heap.size + 1) [.int .i64 b.lo.x, .int .i64 b.lo.y, .int .i64 b.lo.z, .int .i64 b.hi.x, .int .i64 b.hi.y, .int .i64 b.hi.z] 26 := ((Box.new (by simp)).alloc _).step hS
  have hC : Box w1 (w.heap.size + 1 + 1) [.int .i64 c.lo.x, .int .i64 c.lo.y, .int .i64 c.lo.z, .int .i64 c.hi.x, .int .i64 c.hi.y, .int .i64 c.hi.z] 26 := (Box.new (by simp)).step hS
  have hW : Below w.heap.size w w1 := ((((Below.refl _ _).alloc (Nat.le_refl _) _).alloc (by simp) _).alloc (by simp; omega) _).trans (hS.mono (by simp; omega))
  have y0 := (hB).cell 0; have y1 := (hB).cell 1; have y2 := (hB).cell 2; have y3 := (hB).cell 3; have y4 := (hB).cell 4; have y5 := (hB).cell 5; have yf := (hB).free
  simp only [List.getElem?_cons_zero, List.getElem?_cons_succ] at y0 y1 y2 y3 y4 y5
  clear hS
  go_wp2_with fail
  refine (bcheck_ok b _ hb).mono ?_
  rintro e w2 ⟨rfl, hS⟩
  have hA2 := hA.step hS
  have hB2 := hB.step hS
  have hC2 := hC.step hS
  have hW2 := hW.trans (hS.mono hW.size)
  clear y0 y1 y2 y3 y4 y5 yf
  clear hS hA hB hC hW
  have x0 := (hA2).cell 0; have x1 := (hA2).cell 1; have x2 := (hA2).cell 2; have x3 := (hA2).cell 3; have x4 := (hA2).cell 4; have x5 := (hA2).cell 5; have xf := (hA2).free
  simp only [List.getElem?_cons_zero, List.getElem?_cons_succ] at x0 x1 x2 x3 x4 x5
  have y0 := (hB2).cell 0; have y1 := (hB2).cell 1; have y2 := (hB2).cell 2; have y3 := (hB2).cell 3; have y4 := (hB2).cell 4; have y5 := (hB2).cell 5; have yf := (hB2).free
  simp only [List.getElem?_cons_zero, List.getElem?_cons_succ] at y0 y1 y2 y3 y4 y5
  have l0 := hC2.lt
  go_wp2_with fail
  refine (joinC a b _).mono ?_
  rintro e w3 ⟨rfl, hS⟩
  have hA3 := hA2.step hS
  have hB3 := hB2.step hS
  have hC3 := hC2.step hS
  have hW3 := hW2.trans (hS.mono hW2.size)
  have l1 := hC3.lt
  clear x0 x1 x2 x3 x4 x5 xf
  clear y0 y1 y2 y3 y4 y5 yf
  clear hS hA2 hB2 hC2 hW2 l0
  generalize hj : join a b = j at *
  clear hj
  go_wp2
  have hA := hA3.alloc (.cells #[.int .i64 j.lo.x, .int .i64 j.lo.y, .int .i64 j.lo.z, .int .i64 j.hi.x, .int .i64 j.hi.y, .int .i64 j.hi.z] 26)
  have hB := hB3.alloc (.cells #[.int .i64 j.lo.x, .int .i64 j.lo.y, .int .i64 j.lo.z, .int .i64 j.hi.x, .int .i64 j.hi.y, .int .i64 j.hi.z] 26)
  have hC := hC3.alloc (.cells #[.int .i64 j.lo.x, .int .i64 j.lo.y, .int .i64 j.lo.z, .int .i64 j.hi.x, .int .i64 j.hi.y, .int .i64 j.hi.z] 26)
  have hJ : Box (w3.alloc (.cells #[.int .i64 j.lo.x, .int .i64 j.lo.y, .int .i64 j.lo.z, .int .i64 j.hi.x, .int .i64 j.hi.y, .int .i64 j.hi.z] 26)) w3.heap.size [.int .i64 j.lo.x, .int .i64 j.lo.y, .int .i64 j.lo.z, .int .i64 j.hi.x, .int .i64 j.hi.y, .int .i64 j.hi.z] 26 := Box.new rfl
  have hW : Below w.heap.size w (w3.alloc (.cells #[.int .i64 j.lo.x, .int .i64 j.lo.y, .int .i64 j.lo.z, .int .i64 j.hi.x, .int .i64 j.hi.y, .int .i64 j.hi.z] 26)) := hW3.alloc hW3.size _
  clear hA3 hB3 hC3 hW3
  revert hA hB hC hJ hW
  generalize w3.alloc (.cells #[.int .i64 j.lo.x, .int .i64 j.lo.y, .int .i64 j.lo.z, .int .i64 j.hi.x, .int .i64 j.hi.y, .int .i64 j.hi.z] 26) = w4
  generalize w3.heap.size = g at *
  intro hA hB hC hJ hW
  have m0 := hA.lt; have m1 := hB.lt; have m2 := hC.lt; have m3 := hJ.lt
  have x0 := (hA).cell 0; have x1 := (hA).cell 1; have x2 := (hA).cell 2; have x3 := (hA).cell 3; have x4 := (hA).cell 4; have x5 := (hA).cell 5; have xf := (hA).free
  simp only [List.getElem?_cons_zero, List.getElem?_cons_succ] at x0 x1 x2 x3 x4 x5
  have y0 := (hB).cell 0; have y1 := (hB).cell 1; have y2 := (hB).cell 2; have y3 := (hB).cell 3; have y4 := (hB).cell 4; have y5 := (hB).cell 5; have yf := (hB).free
  simp only [List.getElem?_cons_zero, List.getElem?_cons_succ] at y0 y1 y2 y3 y4 y5
  have z0 := (hJ).cell 0; have z1 := (hJ).cell 1; have z2 := (hJ).cell 2; have z3 := (hJ).cell 3; have z4 := (hJ).cell 4; have z5 := (hJ).cell 5; have zf := (hJ).free
  simp only [List.getElem?_cons_zero, List.getElem?_cons_succ] at z0 z1 z2 z3 z4 z5
  refine wp_region_ph [(28, .free [])] (by kernel_rfl) (by kernel_rfl) ?_
  refine Ph.belowd ?_
  simp only [List.drop_succ_cons, List.drop_zero, List.take_succ_cons, List.take_zero, Nat.reduceSub, Nat.sub_zero]
  iterate 1 (refine SeqO.val (v := ?_) (by rfl) (by rfl) (fun w1 hS => ?_) ?_; rotate_left; (· obtain ⟨hc, hcf⟩ := bcell hS; go_simp; try with_reducible rfl); simp only [Act.put, List.setIfInBounds_toArray, List.set_cons_zero, List.set_cons_succ])
  refine SeqO.callv (by rfl) (by rfl) (by rfl) cf14 (by simp [Act.eval]) (fun w1 hS => bcheck_ok j w1 F1.out) ?_
  simp only [Act.put, List.setIfInBounds_toArray, List.set_cons_zero, List.set_cons_succ]
  iterate 4 (refine SeqO.val (v := ?_) (by rfl) (by rfl) (fun w1 hS => ?_) ?_; rotate_left; (· obtain ⟨hc, hcf⟩ := bcell hS; go_simp; try with_reducible rfl); simp only [Act.put, List.setIfInBounds_toArray, List.set_cons_zero, List.set_cons_succ])
  refine SeqO.callv (by rfl) (by rfl) (by rfl) cf23 (by simp [Act.eval]) (fun w1 hS => (holdsC j a w1).eq (by rw [F2.out])) ?_
  simp only [Act.put, List.setIfInBounds_toArray, List.set_cons_zero, List.set_cons_succ]
  iterate 5 (refine SeqO.val (v := ?_) (by rfl) (by rfl) (fun w1 hS => ?_) ?_; rotate_left; (· obtain ⟨hc, hcf⟩ := bcell hS; go_simp; try with_reducible rfl); simp only [Act.put, List.setIfInBounds_toArray, List.set_cons_zero, List.set_cons_succ])
  refine SeqO.callv (by rfl) (by rfl) (by rfl) cf23 (by simp [Act.eval]) (fun w1 hS => (holdsC j b w1).eq (by rw [F3.out])) ?_
  simp only [Act.put, List.setIfInBounds_toArray, List.set_cons_zero, List.set_cons_succ]
  iterate 6 (refine SeqO.val (v := ?_) (by rfl) (by rfl) (fun w1 hS => ?_) ?_; rotate_left; (· obtain ⟨hc, hcf⟩ := bcell hS; go_simp; try with_reducible rfl); simp only [Act.put, List.setIfInBounds_toArray, List.set_cons_zero, List.set_cons_succ])
  refine SeqO.callv (by rfl) (by rfl) (by rfl) cf18 (by simp [Act.eval]) (fun w1 hS => (joinC b a w1).eq (by rw [F4.out])) ?_
  simp only [Act.put, List.setIfInBounds_toArray, List.set_cons_zero, List.set_cons_succ]
  iterate 5 (refine SeqO.val (v := ?_) (by rfl) (by rfl) (fun w1 hS => ?_) ?_; rotate_left; (· obtain ⟨hc, hcf⟩ := bcell hS; go_simp; try with_reducible rfl); simp only [Act.put, List.setIfInBounds_toArray, List.set_cons_zero, List.set_cons_succ])
  refine SeqO.callv (by rfl) (by rfl) (by rfl) cf18 (by simp [Act.eval]) (fun w1 hS => (joinC a a w1).eq (by rw [F5.out])) ?_
  simp only [Act.put, List.setIfInBounds_toArray, List.set_cons_zero, List.set_cons_succ]
  iterate 2 (refine SeqO.val (v := ?_) (by rfl) (by rfl) (fun w1 hS => ?_) ?_; rotate_left; (· obtain ⟨hc, hcf⟩ := bcell hS; go_simp; try with_reducible rfl); simp only [Act.put, List.setIfInBounds_toArray, List.set_cons_zero, List.set_cons_succ])
  refine SeqO.nil0 fun w5 hS => ?_
  refine Ph.last ?_
  simp only [List.drop_succ_cons, List.drop_zero, List.take_succ_cons, List.take_zero, Nat.reduceSub, Nat.sub_zero]
  have hA5 := hA.step hS; have hB5 := hB.step hS; have hC5 := hC.step hS; have hJ5 := hJ.step hS
  have hW5 := hW.trans (hS.mono hW.size)
  clear x0 x1 x2 x3 x4 x5 xf
  clear y0 y1 y2 y3 y4 y5 yf
  clear z0 z1 z2 z3 z4 z5 zf
  clear hA hB hC hJ hW hS m0 m1 m2 m3 w4
  have x0 := (hA5).cell 0; have x1 := (hA5).cell 1; have x2 := (hA5).cell 2; have x3 := (hA5).cell 3; have x4 := (hA5).cell 4; have x5 := (hA5).cell 5; have xf := (hA5).free
  simp only [List.getElem?_cons_zero, List.getElem?_cons_succ] at x0 x1 x2 x3 x4 x5
  have y0 := (hC5).cell 0; have y1 := (hC5).cell 1; have y2 := (hC5).cell 2; have y3 := (hC5).cell 3; have y4 := (hC5).cell 4; have y5 := (hC5).cell 5; have yf := (hC5).free
  simp only [List.getElem?_cons_zero, List.getElem?_cons_succ] at y0 y1 y2 y3 y4 y5
  have m0 := hA5.lt; have m1 := hC5.lt; have m2 := hJ5.lt
  go_wp2_with fail
  by_cases c1 : holds c a = true
  · refine ((holdsC c a _).eq (v' := .bool true) (by rw [c1])).mono ?_
    rintro e w6 ⟨rfl, hS⟩
    have hA6 := hA5.step hS; have hB6 := hB5.step hS; have hC6 := hC5.step hS; have hJ6 := hJ5.step hS
    have hW6 := hW5.trans (hS.mono hW5.size)
    clear x0 x1 x2 x3 x4 x5 xf
    clear y0 y1 y2 y3 y4 y5 yf
    clear hA5 hB5 hC5 hJ5 hW5 hS m0 m1 m2
    have x0 := (hB6).cell 0; have x1 := (hB6).cell 1; have x2 := (hB6).cell 2; have x3 := (hB6).cell 3; have x4 := (hB6).cell 4; have x5 := (hB6).cell 5; have xf := (hB6).free
    simp only [List.getElem?_cons_zero, List.getElem?_cons_succ] at x0 x1 x2 x3 x4 x5
    have y0 := (hC6).cell 0; have y1 := (hC6).cell 1; have y2 := (hC6).cell 2; have y3 := (hC6).cell 3; have y4 := (hC6).cell 4; have y5 := (hC6).cell 5; have yf := (hC6).free
    simp only [List.getElem?_cons_zero, List.getElem?_cons_succ] at y0 y1 y2 y3 y4 y5
    go_wp2_with fail
    refine (holdsC c b _).mono ?_
    rintro e w7 ⟨rfl, hS⟩
    have hA7 := hA6.step hS; have hC7 := hC6.step hS; have hJ7 := hJ6.step hS
    have hW7 := hW6.trans (hS.mono hW6.size)
    have F6' := Lib.hid (show holds c j = holds c b from by rw [F6.out, c1]; rfl)
    clear x0 x1 x2 x3 x4 x5 xf
    clear y0 y1 y2 y3 y4 y5 yf
    clear hA6 hB6 hC6 hJ6 hW6 hS
    generalize holds c b = t at *
    have x0 := (hA7).cell 0; have x1 := (hA7).cell 1; have x2 := (hA7).cell 2; have x3 := (hA7).cell 3; have x4 := (hA7).cell 4; have x5 := (hA7).cell 5; have xf := (hA7).free
    simp only [List.getElem?_cons_zero, List.getElem?_cons_succ] at x0 x1 x2 x3 x4 x5
    have y0 := (hC7).cell 0; have y1 := (hC7).cell 1; have y2 := (hC7).cell 2; have y3 := (hC7).cell 3; have y4 := (hC7).cell 4; have y5 := (hC7).cell 5; have yf := (hC7).free
    simp only [List.getElem?_cons_zero, List.getElem?_cons_succ] at y0 y1 y2 y3 y4 y5
    have z0 := (hJ7).cell 0; have z1 := (hJ7).cell 1; have z2 := (hJ7).cell 2; have z3 := (hJ7).cell 3; have z4 := (hJ7).cell 4; have z5 := (hJ7).cell 5; have zf := (hJ7).free
    simp only [List.getElem?_cons_zero, List.getElem?_cons_succ] at z0 z1 z2 z3 z4 z5
    have m0 := hA7.lt; have m1 := hC7.lt; have m2 := hJ7.lt
    go_wp2
    refine wp_region_ph [(14, .free [])] (by kernel_rfl) (by kernel_rfl) ?_
    refine Ph.belowd ?_
    simp only [List.drop_succ_cons, List.drop_zero, List.take_succ_cons, List.take_zero, Nat.reduceSub, Nat.sub_zero]
    iterate 3 (refine SeqO.val (v := ?_) (by rfl) (by rfl) (fun w1 hS => ?_) ?_; rotate_left; (· obtain ⟨hc, hcf⟩ := bcell hS; go_simp; try with_reducible rfl); simp only [Act.put, List.setIfInBounds_toArray, List.set_cons_zero, List.set_cons_succ])
    refine SeqO.callv (by rfl) (by rfl) (by rfl) cf23 (by simp [Act.eval]) (fun w1 hS => (holdsC c j w1).eq (by rw [F6'.out])) ?_
    simp only [Act.put, List.setIfInBounds_toArray, List.set_cons_zero, List.set_cons_succ]
    iterate 4 (refine SeqO.val (v := ?_) (by rfl) (by rfl) (fun w1 hS => ?_) ?_; rotate_left; (· obtain ⟨hc, hcf⟩ := bcell hS; go_simp; try with_reducible rfl); simp only [Act.put, List.setIfInBounds_toArray, List.set_cons_zero, List.set_cons_succ])
    refine SeqO.callv (by rfl) (by rfl) (by rfl) cf20 (by simp [Act.eval]) (fun w1 hS => growC a r w1) ?_
    simp only [Act.put, List.setIfInBounds_toArray, List.set_cons_zero, List.set_cons_succ]
    iterate 1 (refine SeqO.val (v := ?_) (by rfl) (by rfl) (fun w1 hS => ?_) ?_; rotate_left; (· obtain ⟨hc, hcf⟩ := bcell hS; go_simp; try with_reducible rfl); simp only [Act.put, List.setIfInBounds_toArray, List.set_cons_zero, List.set_cons_succ])
    refine SeqO.callv (by rfl) (by rfl) (by rfl) cf23 (by simp [Act.eval]) (fun w1 hS => (holdsC (grow a r) a w1).eq (by rw [F7.out])) ?_
    simp only [Act.put, List.setIfInBounds_toArray, List.set_cons_zero, List.set_cons_succ]
    iterate 2 (refine SeqO.val (v := ?_) (by rfl) (by rfl) (fun w1 hS => ?_) ?_; rotate_left; (· obtain ⟨hc, hcf⟩ := bcell hS; go_simp; try with_reducible rfl); simp only [Act.put, List.setIfInBounds_toArray, List.set_cons_zero, List.set_cons_succ])
    refine SeqO.callv (by rfl) (by rfl) (by rfl) cf11 (by simp [Act.eval]) (fun w1 hS => awakeC w1) ?_
    simp only [Act.put, List.setIfInBounds_toArray, List.set_cons_zero, List.set_cons_succ]
    refine SeqO.nil0 fun w8 hS => ?_
    refine Ph.last ?_
    simp only [List.drop_succ_cons, List.drop_zero, List.take_succ_cons, List.take_zero, Nat.reduceSub, Nat.sub_zero]
    go_wp2
    exact bodyPost_ret (v := .bool true) (by simp [results, Try.results7, go_sem]) rfl ⟨rfl, hW7.trans (hS.mono hW7.size)⟩
  · have c1' : holds c a = false := by simpa using c1
    refine ((holdsC c a _).eq (v' := .bool false) (by rw [c1'])).mono ?_
    rintro e w7 ⟨rfl, hS⟩
    have hA7 := hA5.step hS; have hC7 := hC5.step hS; have hJ7 := hJ5.step hS
    have hW7 := hW5.trans (hS.mono hW5.size)
    have F6' := Lib.hid (show holds c j = false from by rw [F6.out, c1']; rfl)
    clear x0 x1 x2 x3 x4 x5 xf
    clear y0 y1 y2 y3 y4 y5 yf
    clear hA5 hB5 hC5 hJ5 hW5 hS m0 m1 m2
    have x0 := (hA7).cell 0; have x1 := (hA7).cell 1; have x2 := (hA7).cell 2; have x3 := (hA7).cell 3; have x4 := (hA7).cell 4; have x5 := (hA7).cell 5; have xf := (hA7).free
    simp only [List.getElem?_cons_zero, List.getElem?_cons_succ] at x0 x1 x2 x3 x4 x5
    have y0 := (hC7).cell 0; have y1 := (hC7).cell 1; have y2 := (hC7).cell 2; have y3 := (hC7).cell 3; have y4 := (hC7).cell 4; have y5 := (hC7).cell 5; have yf := (hC7).free
    simp only [List.getElem?_cons_zero, List.getElem?_cons_succ] at y0 y1 y2 y3 y4 y5
    have z0 := (hJ7).cell 0; have z1 := (hJ7).cell 1; have z2 := (hJ7).cell 2; have z3 := (hJ7).cell 3; have z4 := (hJ7).cell 4; have z5 := (hJ7).cell 5; have zf := (hJ7).free
    simp only [List.getElem?_cons_zero, List.getElem?_cons_succ] at z0 z1 z2 z3 z4 z5
    have m0 := hA7.lt; have m1 := hC7.lt; have m2 := hJ7.lt
    go_wp2
    refine wp_region_ph [(14, .free [])] (by kernel_rfl) (by kernel_rfl) ?_
    refine Ph.belowd ?_
    simp only [List.drop_succ_cons, List.drop_zero, List.take_succ_cons, List.take_zero, Nat.reduceSub, Nat.sub_zero]
    iterate 3 (refine SeqO.val (v := ?_) (by rfl) (by rfl) (fun w1 hS => ?_) ?_; rotate_left; (· obtain ⟨hc, hcf⟩ := bcell hS; go_simp; try with_reducible rfl); simp only [Act.put, List.setIfInBounds_toArray, List.set_cons_zero, List.set_cons_succ])
    refine SeqO.callv (by rfl) (by rfl) (by rfl) cf23 (by simp [Act.eval]) (fun w1 hS => (holdsC c j w1).eq (by rw [F6'.out])) ?_
    simp only [Act.put, List.setIfInBounds_toArray, List.set_cons_zero, List.set_cons_succ]
    iterate 4 (refine SeqO.val (v := ?_) (by rfl) (by rfl) (fun w1 hS => ?_) ?_; rotate_left; (· obtain ⟨hc, hcf⟩ := bcell hS; go_simp; try with_reducible rfl); simp only [Act.put, List.setIfInBounds_toArray, List.set_cons_zero, List.set_cons_succ])
    refine SeqO.callv (by rfl) (by rfl) (by rfl) cf20 (by simp [Act.eval]) (fun w1 hS => growC a r w1) ?_
    simp only [Act.put, List.setIfInBounds_toArray, List.set_cons_zero, List.set_cons_succ]
    iterate 1 (refine SeqO.val (v := ?_) (by rfl) (by rfl) (fun w1 hS => ?_) ?_; rotate_left; (· obtain ⟨hc, hcf⟩ := bcell hS; go_simp; try with_reducible rfl); simp only [Act.put, List.setIfInBounds_toArray, List.set_cons_zero, List.set_cons_succ])
    refine SeqO.callv (by rfl) (by rfl) (by rfl) cf23 (by simp [Act.eval]) (fun w1 hS => (holdsC (grow a r) a w1).eq (by rw [F7.out])) ?_
    simp only [Act.put, List.setIfInBounds_toArray, List.set_cons_zero, List.set_cons_succ]
    iterate 2 (refine SeqO.val (v := ?_) (by rfl) (by rfl) (fun w1 hS => ?_) ?_; rotate_left; (· obtain ⟨hc, hcf⟩ := bcell hS; go_simp; try with_reducible rfl); simp only [Act.put, List.setIfInBounds_toArray, List.set_cons_zero, List.set_cons_succ])
    refine SeqO.callv (by rfl) (by rfl) (by rfl) cf11 (by simp [Act.eval]) (fun w1 hS => awakeC w1) ?_
    simp only [Act.put, List.setIfInBounds_toArray, List.set_cons_zero, List.set_cons_succ]
    refine SeqO.nil0 fun w8 hS => ?_
    refine Ph.last ?_
    simp only [List.drop_succ_cons, List.drop_zero, List.take_succ_cons, List.take_zero, Nat.reduceSub, Nat.sub_zero]
    go_wp2
    exact bodyPost_ret (v := .bool true) (by simp [results, Try.results7, go_sem]) rfl ⟨rfl, hW7.trans (hS.mono hW7.size)⟩
theorem lawLeast (a b c : Bd) (r : Int) (w : World) : RetB Try.prog 7 #[.agg #[.int .i64 a.lo.x, .int .i64 a.lo.y, .int .i64 a.lo.z, .int .i64 a.hi.x, .int .i64 a.hi.y, .int .i64 a.hi.z], .agg #[.int .i64 b.lo.x, .int .i64 b.lo.y, .int .i64 b.lo.z, .int .i64 b.hi.x, .int .i64 b.hi.y, .int .i64 b.hi.z], .agg #[.int .i64 c.lo.x, .int .i64 c.lo.y, .int .i64 c.lo.z, .int .i64 c.hi.x, .int .i64 c.hi.y, .int .i64 c.hi.z], .int .i64 r] w (.bool true) := by
  by_cases ha : a.ok
  · by_cases hb : b.ok
    · exact least_ok a b c r w ha hb
    · exact least_no2 a b c r w ha hb
  · exact least_no1 a b c r w ha
end Go.Proofs.Ytegmfmonkaimcaa
