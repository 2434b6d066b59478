/- Sums, differences, products and order of integers of 512 bits, in plain numbers: the walks. No condition. -/
import Derived.Test.YtbbiefgmlklafaaW8
namespace Go.Proofs.Ytbbiefgmlklafaa
set_option linter.unusedVariables false
set_option linter.unusedSimpArgs false
open Go.RowKit Go.NP
namespace WidA
theorem cf54 (args : Array Value) (w1 : World) : (callFunc 54 args).run Try.prog w1 = .ok (.enter 54 args) w1 := enters Try.func54 (by kernel_rfl) (by kernel_rfl) args w1
theorem cf90 (args : Array Value) (w1 : World) : (callFunc 90 args).run Try.prog w1 = .ok (.enter 90 args) w1 := enters Try.func90 (by kernel_rfl) (by kernel_rfl) args w1
theorem cf31 (args : Array Value) (w1 : World) : (callFunc 31 args).run Try.prog w1 = .ok (.enter 31 args) w1 := enters Try.func31 (by kernel_rfl) (by kernel_rfl) args w1
theorem cmpW {x y : Int} (hx : fits x) (hy : fits y) (w : World) : RetB Try.prog 13 #[.agg #[.int .u64 (w8 x).a, .int .u64 (w8 x).b, .int .u64 (w8 x).c, .int .u64 (w8 x).d, .int .u64 (w8 x).e, .int .u64 (w8 x).f, .int .u64 (w8 x).g, .int .u64 (w8 x).h], .agg #[.int .u64 (w8 y).a, .int .u64 (w8 y).b, .int .u64 (w8 y).c, .int .u64 (w8 y).d, .int .u64 (w8 y).e, .int .u64 (w8 y).f, .int .u64 (w8 y).g, .int .u64 (w8 y).h]] w (.int .i64 (cmpI x y)) := by
  rw [← cmp_w8 hx hy]; exact cmpC (w8 x) (w8 y) w
theorem negW {x : Int} (hx : fits x) (w : World) : RetB Try.prog 31 #[.agg #[.int .u64 (w8 x).a, .int .u64 (w8 x).b, .int .u64 (w8 x).c, .int .u64 (w8 x).d, .int .u64 (w8 x).e, .int .u64 (w8 x).f, .int .u64 (w8 x).g, .int .u64 (w8 x).h]] w (.bool (decide (x < 0))) := by
  rw [← top_w8 hx]; exact negC (w8 x) w
theorem plusW {x y c : Int} (hc : is01 c) (w : World) : RetB Try.prog 54 #[.agg #[.int .u64 (w8 x).a, .int .u64 (w8 x).b, .int .u64 (w8 x).c, .int .u64 (w8 x).d, .int .u64 (w8 x).e, .int .u64 (w8 x).f, .int .u64 (w8 x).g, .int .u64 (w8 x).h], .agg #[.int .u64 (w8 y).a, .int .u64 (w8 y).b, .int .u64 (w8 y).c, .int .u64 (w8 y).d, .int .u64 (w8 y).e, .int .u64 (w8 y).f, .int .u64 (w8 y).g, .int .u64 (w8 y).h], .int .u64 c] w (.agg #[.int .u64 (w8 (x + y + c)).a, .int .u64 (w8 (x + y + c)).b, .int .u64 (w8 (x + y + c)).c, .int .u64 (w8 (x + y + c)).d, .int .u64 (w8 (x + y + c)).e, .int .u64 (w8 (x + y + c)).f, .int .u64 (w8 (x + y + c)).g, .int .u64 (w8 (x + y + c)).h]) := by
  rw [← plus_w8]; exact plusC (w8 x) (w8 y) c (w8_ok x) (w8_ok y) hc w
theorem notW (x : Int) (w : World) : RetB Try.prog 90 #[.agg #[.int .u64 (w8 x).a, .int .u64 (w8 x).b, .int .u64 (w8 x).c, .int .u64 (w8 x).d, .int .u64 (w8 x).e, .int .u64 (w8 x).f, .int .u64 (w8 x).g, .int .u64 (w8 x).h]] w (.agg #[.int .u64 (w8 (-x - 1)).a, .int .u64 (w8 (-x - 1)).b, .int .u64 (w8 (-x - 1)).c, .int .u64 (w8 (-x - 1)).d, .int .u64 (w8 (-x - 1)).e, .int .u64 (w8 (-x - 1)).f, .int .u64 (w8 (-x - 1)).g, .int .u64 (w8 (-x - 1)).h]) := by
  rw [← not_w8]; exact notC (w8 x) w
set_option maxRecDepth 100000 in
set_option maxHeartbeats 4000000 in
theorem addW {x y : Int} (hx : fits x) (hy : fits y) (hxy : fits (x + y)) (w : World) : RetB Try.prog 36 #[.agg #[.int .u64 (w8 x).a, .int .u64 (w8 x).b, .int .u64 (w8 x).c, .int .u64 (w8 x).d, .int .u64 (w8 x).e, .int .u64 (w8 x).f, .int .u64 (w8 x).g, .int .u64 (w8 x).h], .agg #[.int .u64 (w8 y).a, .int .u64 (w8 y).b, .int .u64 (w8 y).c, .int .u64 (w8 y).d, .int .u64 (w8 y).e, .int .u64 (w8 y).f, .int .u64 (w8 y).g, .int .u64 (w8 y).h]] w (.tuple #[.agg #[.int .u64 (w8 (x + y)).a, .int .u64 (w8 (x + y)).b, .int .u64 (w8 (x + y)).c, .int .u64 (w8 (x + y)).d, .int .u64 (w8 (x + y)).e, .int .u64 (w8 (x + y)).f, .int .u64 (w8 (x + y)).g, .int .u64 (w8 (x + y)).h], .bool true]) := by
  have E := Lib.hid (show x + y + 0 = x + y from Int.add_zero _)
  have N1 := Lib.hid (fun w => negW hx w); have N2 := Lib.hid (fun w => negW hy w); have N3 := Lib.hid (fun w => negW hxy w)
  obtain ⟨s1, hs1⟩ : ∃ s, decide (x < 0) = s := ⟨_, rfl⟩
  obtain ⟨s2, hs2⟩ : ∃ s, decide (y < 0) = s := ⟨_, rfl⟩
  obtain ⟨s3, hs3⟩ : ∃ s, decide (x + y < 0) = s := ⟨_, rfl⟩
  have H := Lib.hid (show s1 = s2 → s3 = s1 by
    intro h
    rw [← hs1, ← hs2] at h
    rw [← hs1, ← hs3]
    have h' := decide_eq_decide.1 h
    apply decide_eq_decide.2
    omega)
  rw [hs1] at N1; rw [hs2] at N2; rw [hs3] at N3
  clear hs1 hs2 hs3 hx hy hxy
  unfold RetB
  go_enter Try.func36, Try.ntmps36
  go_wp2_with fail
  refine ((plusW (x := x) (y := y) ⟨by decide, by decide⟩ _).eq (v' := .agg #[.int .u64 (w8 (x + y)).a, .int .u64 (w8 (x + y)).b, .int .u64 (w8 (x + y)).c, .int .u64 (w8 (x + y)).d, .int .u64 (w8 (x + y)).e, .int .u64 (w8 (x + y)).f, .int .u64 (w8 (x + y)).g, .int .u64 (w8 (x + y)).h]) (by rw [E.out])).mono ?_
  rintro e w1 ⟨rfl, hS⟩
  have hA : Box w1 w.heap.size [.int .u64 (w8 x).a, .int .u64 (w8 x).b, .int .u64 (w8 x).c, .int .u64 (w8 x).d, .int .u64 (w8 x).e, .int .u64 (w8 x).f, .int .u64 (w8 x).g, .int .u64 (w8 x).h] 37 := (((Box.new rfl).alloc _).alloc _).step hS
  have hB : Box w1 (w.heap.size + 1) [.int .u64 (w8 y).a, .int .u64 (w8 y).b, .int .u64 (w8 y).c, .int .u64 (w8 y).d, .int .u64 (w8 y).e, .int .u64 (w8 y).f, .int .u64 (w8 y).g, .int .u64 (w8 y).h] 37 := ((Box.new (by simp)).alloc _).step hS
  have hR : Box w1 (w.heap.size + 1 + 1) [.int .u64 0, .int .u64 0, .int .u64 0, .int .u64 0, .int .u64 0, .int .u64 0, .int .u64 0, .int .u64 0] 37 := (Box.new (by simp)).step hS
  have hW : Below w.heap.size w w1 := ((((Below.refl _ _).alloc (Nat.le_refl _) _).alloc (by simp) _).alloc (by simp; omega) _).trans (hS.mono (by simp; omega))
  clear hS
  go_wp2_with fail
  have hP : Box (w1.alloc (.cells [.int .u64 (w8 (x + y)).a, .int .u64 (w8 (x + y)).b, .int .u64 (w8 (x + y)).c, .int .u64 (w8 (x + y)).d, .int .u64 (w8 (x + y)).e, .int .u64 (w8 (x + y)).f, .int .u64 (w8 (x + y)).g, .int .u64 (w8 (x + y)).h].toArray 77)) w1.heap.size [.int .u64 (w8 (x + y)).a, .int .u64 (w8 (x + y)).b, .int .u64 (w8 (x + y)).c, .int .u64 (w8 (x + y)).d, .int .u64 (w8 (x + y)).e, .int .u64 (w8 (x + y)).f, .int .u64 (w8 (x + y)).g, .int .u64 (w8 (x + y)).h] 77 := Box.new rfl
  have hA := hA.alloc (.cells [.int .u64 (w8 (x + y)).a, .int .u64 (w8 (x + y)).b, .int .u64 (w8 (x + y)).c, .int .u64 (w8 (x + y)).d, .int .u64 (w8 (x + y)).e, .int .u64 (w8 (x + y)).f, .int .u64 (w8 (x + y)).g, .int .u64 (w8 (x + y)).h].toArray 77)
  have hB := hB.alloc (.cells [.int .u64 (w8 (x + y)).a, .int .u64 (w8 (x + y)).b, .int .u64 (w8 (x + y)).c, .int .u64 (w8 (x + y)).d, .int .u64 (w8 (x + y)).e, .int .u64 (w8 (x + y)).f, .int .u64 (w8 (x + y)).g, .int .u64 (w8 (x + y)).h].toArray 77)
  have hR := hR.alloc (.cells [.int .u64 (w8 (x + y)).a, .int .u64 (w8 (x + y)).b, .int .u64 (w8 (x + y)).c, .int .u64 (w8 (x + y)).d, .int .u64 (w8 (x + y)).e, .int .u64 (w8 (x + y)).f, .int .u64 (w8 (x + y)).g, .int .u64 (w8 (x + y)).h].toArray 77)
  have hW := hW.alloc hW.size (.cells [.int .u64 (w8 (x + y)).a, .int .u64 (w8 (x + y)).b, .int .u64 (w8 (x + y)).c, .int .u64 (w8 (x + y)).d, .int .u64 (w8 (x + y)).e, .int .u64 (w8 (x + y)).f, .int .u64 (w8 (x + y)).g, .int .u64 (w8 (x + y)).h].toArray 77)
  revert hP hA hB hR hW
  generalize w1.alloc (.cells [.int .u64 (w8 (x + y)).a, .int .u64 (w8 (x + y)).b, .int .u64 (w8 (x + y)).c, .int .u64 (w8 (x + y)).d, .int .u64 (w8 (x + y)).e, .int .u64 (w8 (x + y)).f, .int .u64 (w8 (x + y)).g, .int .u64 (w8 (x + y)).h].toArray 77) = w2
  generalize w1.heap.size = n1
  intro hP hA hB hR hW
  have m0 := hA.lt; have m1 := hB.lt; have m2 := hP.lt
  have x0 := (hA).cell 0; have x1 := (hA).cell 1; have x2 := (hA).cell 2; have x3 := (hA).cell 3; have x4 := (hA).cell 4; have x5 := (hA).cell 5; have x6 := (hA).cell 6; have x7 := (hA).cell 7; have xf := (hA).free
  simp only [List.getElem?_cons_zero, List.getElem?_cons_succ] at x0 x1 x2 x3 x4 x5 x6 x7
  have y0 := (hB).cell 0; have y1 := (hB).cell 1; have y2 := (hB).cell 2; have y3 := (hB).cell 3; have y4 := (hB).cell 4; have y5 := (hB).cell 5; have y6 := (hB).cell 6; have y7 := (hB).cell 7; have yf := (hB).free
  simp only [List.getElem?_cons_zero, List.getElem?_cons_succ] at y0 y1 y2 y3 y4 y5 y6 y7
  have z0 := (hP).cell 0; have z1 := (hP).cell 1; have z2 := (hP).cell 2; have z3 := (hP).cell 3; have z4 := (hP).cell 4; have z5 := (hP).cell 5; have z6 := (hP).cell 6; have z7 := (hP).cell 7; have zf := (hP).free
  simp only [List.getElem?_cons_zero, List.getElem?_cons_succ] at z0 z1 z2 z3 z4 z5 z6 z7
  by_cases h : s1 = s2
  · have e3 := H.out h
    subst h; subst e3
    refine wp_region_ph [(15, .free [])] (by kernel_rfl) (by kernel_rfl) ?_
    refine Ph.belowd ?_
    simp only [List.drop_succ_cons, List.drop_zero, List.take_succ_cons, List.take_zero, Nat.reduceSub, Nat.sub_zero]
    iterate 2 (refine SeqO.val (v := ?_) (by rfl) (by rfl) (fun w1 hS => ?_) ?_; rotate_left; (· obtain ⟨hc, hcf⟩ := bcell hS; go_simp; try with_reducible rfl); simp only [Act.put, List.setIfInBounds_toArray, List.set_cons_zero, List.set_cons_succ])
    refine SeqO.callv (by rfl) (by rfl) (by rfl) cf31 (by simp [Act.eval]) (fun w1 hS => N1.out w1) ?_
    simp only [Act.put, List.setIfInBounds_toArray, List.set_cons_zero, List.set_cons_succ]
    iterate 2 (refine SeqO.val (v := ?_) (by rfl) (by rfl) (fun w1 hS => ?_) ?_; rotate_left; (· obtain ⟨hc, hcf⟩ := bcell hS; go_simp; try with_reducible rfl); simp only [Act.put, List.setIfInBounds_toArray, List.set_cons_zero, List.set_cons_succ])
    refine SeqO.callv (by rfl) (by rfl) (by rfl) cf31 (by simp [Act.eval]) (fun w1 hS => N2.out w1) ?_
    simp only [Act.put, List.setIfInBounds_toArray, List.set_cons_zero, List.set_cons_succ]
    iterate 3 (refine SeqO.val (v := ?_) (by rfl) (by rfl) (fun w1 hS => ?_) ?_; rotate_left; (· obtain ⟨hc, hcf⟩ := bcell hS; go_simp; try with_reducible rfl); simp only [Act.put, List.setIfInBounds_toArray, List.set_cons_zero, List.set_cons_succ])
    refine SeqO.callv (by rfl) (by rfl) (by rfl) cf31 (by simp [Act.eval]) (fun w1 hS => N3.out w1) ?_
    simp only [Act.put, List.setIfInBounds_toArray, List.set_cons_zero, List.set_cons_succ]
    iterate 2 (refine SeqO.val (v := ?_) (by rfl) (by rfl) (fun w1 hS => ?_) ?_; rotate_left; (· obtain ⟨hc, hcf⟩ := bcell hS; go_simp; try with_reducible rfl); simp only [Act.put, List.setIfInBounds_toArray, List.set_cons_zero, List.set_cons_succ])
    refine SeqO.callv (by rfl) (by rfl) (by rfl) cf31 (by simp [Act.eval]) (fun w1 hS => N1.out w1) ?_
    simp only [Act.put, List.setIfInBounds_toArray, List.set_cons_zero, List.set_cons_succ]
    iterate 2 (refine SeqO.val (v := ?_) (by rfl) (by rfl) (fun w1 hS => ?_) ?_; rotate_left; (· obtain ⟨hc, hcf⟩ := bcell hS; go_simp; try with_reducible rfl); simp only [Act.put, List.setIfInBounds_toArray, List.set_cons_zero, List.set_cons_succ])
    refine SeqO.nil0 fun w5 hS => ?_
    have hP := hP.step hS; have hR := hR.step hS; have hW := hW.trans (hS.mono hW.size)
    refine Ph.last ?_
    simp only [List.drop_succ_cons, List.drop_zero, List.take_succ_cons, List.take_zero, Nat.reduceSub, Nat.sub_zero]
    clear x0 x1 x2 x3 x4 x5 x6 x7 xf
    clear y0 y1 y2 y3 y4 y5 y6 y7 yf
    clear z0 z1 z2 z3 z4 z5 z6 z7 zf
    clear hS hA hB m0 m1 m2
    have z0 := (hP).cell 0; have z1 := (hP).cell 1; have z2 := (hP).cell 2; have z3 := (hP).cell 3; have z4 := (hP).cell 4; have z5 := (hP).cell 5; have z6 := (hP).cell 6; have z7 := (hP).cell 7; have zf := (hP).free
    simp only [List.getElem?_cons_zero, List.getElem?_cons_succ] at z0 z1 z2 z3 z4 z5 z6 z7
    have q0 := (hR).cell 0; have q1 := (hR).cell 1; have q2 := (hR).cell 2; have q3 := (hR).cell 3; have q4 := (hR).cell 4; have q5 := (hR).cell 5; have q6 := (hR).cell 6; have q7 := (hR).cell 7; have qf := (hR).free
    simp only [List.getElem?_cons_zero, List.getElem?_cons_succ] at q0 q1 q2 q3 q4 q5 q6 q7
    have m2 := hP.lt; have m3 := hR.lt
    go_wp2
    exact bodyPost_ret (v := .tuple #[.agg #[.int .u64 (w8 (x + y)).a, .int .u64 (w8 (x + y)).b, .int .u64 (w8 (x + y)).c, .int .u64 (w8 (x + y)).d, .int .u64 (w8 (x + y)).e, .int .u64 (w8 (x + y)).f, .int .u64 (w8 (x + y)).g, .int .u64 (w8 (x + y)).h], .bool true]) (by simp [results, Try.results36, Try.results76, go_sem, *]) rfl ⟨rfl, ((((((((hW).setCell (by first | omega | (simp; done) | (simp; omega)) _).setCell (by first | omega | (simp; done) | (simp; omega)) _).setCell (by first | omega | (simp; done) | (simp; omega)) _).setCell (by first | omega | (simp; done) | (simp; omega)) _).setCell (by first | omega | (simp; done) | (simp; omega)) _).setCell (by first | omega | (simp; done) | (simp; omega)) _).setCell (by first | omega | (simp; done) | (simp; omega)) _).setCell (by first | omega | (simp; done) | (simp; omega)) _⟩
  · have hd : (s1 == s2) = false := by simpa using h
    have h2 : s2 = !s1 := by revert h; cases s1 <;> cases s2 <;> simp
    subst h2
    cases s1
    all_goals
      refine wp_region_ph [(15, .free [])] (by kernel_rfl) (by kernel_rfl) ?_
      refine Ph.belowd ?_
      simp only [List.drop_succ_cons, List.drop_zero, List.take_succ_cons, List.take_zero, Nat.reduceSub, Nat.sub_zero]
      iterate 2 (refine SeqO.val (v := ?_) (by rfl) (by rfl) (fun w1 hS => ?_) ?_; rotate_left; (· obtain ⟨hc, hcf⟩ := bcell hS; go_simp; try with_reducible rfl); simp only [Act.put, List.setIfInBounds_toArray, List.set_cons_zero, List.set_cons_succ])
      refine SeqO.callv (by rfl) (by rfl) (by rfl) cf31 (by simp [Act.eval]) (fun w1 hS => N1.out w1) ?_
      simp only [Act.put, List.setIfInBounds_toArray, List.set_cons_zero, List.set_cons_succ]
      iterate 2 (refine SeqO.val (v := ?_) (by rfl) (by rfl) (fun w1 hS => ?_) ?_; rotate_left; (· obtain ⟨hc, hcf⟩ := bcell hS; go_simp; try with_reducible rfl); simp only [Act.put, List.setIfInBounds_toArray, List.set_cons_zero, List.set_cons_succ])
      refine SeqO.callv (by rfl) (by rfl) (by rfl) cf31 (by simp [Act.eval]) (fun w1 hS => N2.out w1) ?_
      simp only [Act.put, List.setIfInBounds_toArray, List.set_cons_zero, List.set_cons_succ]
      repeat (first | (refine SeqO.skip (by rfl) (by rfl) ?_; simp only [Act.put, List.setIfInBounds_toArray, List.set_cons_zero, List.set_cons_succ])  | (refine SeqO.val (v := ?_) (by rfl) (by rfl) (fun w1 hS => ?_) ?_; rotate_left; (· obtain ⟨hc, hcf⟩ := bcell hS; go_simp; try with_reducible rfl); simp only [Act.put, List.setIfInBounds_toArray, List.set_cons_zero, List.set_cons_succ]))
      refine SeqO.nil0 fun w5 hS => ?_
      have hP := hP.step hS; have hR := hR.step hS; have hW := hW.trans (hS.mono hW.size)
      refine Ph.last ?_
      simp only [List.drop_succ_cons, List.drop_zero, List.take_succ_cons, List.take_zero, Nat.reduceSub, Nat.sub_zero]
      clear x0 x1 x2 x3 x4 x5 x6 x7 xf
      clear y0 y1 y2 y3 y4 y5 y6 y7 yf
      clear z0 z1 z2 z3 z4 z5 z6 z7 zf
      clear hS hA hB m0 m1 m2
      have z0 := (hP).cell 0; have z1 := (hP).cell 1; have z2 := (hP).cell 2; have z3 := (hP).cell 3; have z4 := (hP).cell 4; have z5 := (hP).cell 5; have z6 := (hP).cell 6; have z7 := (hP).cell 7; have zf := (hP).free
      simp only [List.getElem?_cons_zero, List.getElem?_cons_succ] at z0 z1 z2 z3 z4 z5 z6 z7
      have q0 := (hR).cell 0; have q1 := (hR).cell 1; have q2 := (hR).cell 2; have q3 := (hR).cell 3; have q4 := (hR).cell 4; have q5 := (hR).cell 5; have q6 := (hR).cell 6; have q7 := (hR).cell 7; have qf := (hR).free
      simp only [List.getElem?_cons_zero, List.getElem?_cons_succ] at q0 q1 q2 q3 q4 q5 q6 q7
      have m2 := hP.lt; have m3 := hR.lt
      go_wp2
      exact bodyPost_ret (v := .tuple #[.agg #[.int .u64 (w8 (x + y)).a, .int .u64 (w8 (x + y)).b, .int .u64 (w8 (x + y)).c, .int .u64 (w8 (x + y)).d, .int .u64 (w8 (x + y)).e, .int .u64 (w8 (x + y)).f, .int .u64 (w8 (x + y)).g, .int .u64 (w8 (x + y)).h], .bool true]) (by simp [results, Try.results36, Try.results76, go_sem, *]) rfl ⟨rfl, ((((((((hW).setCell (by first | omega | (simp; done) | (simp; omega)) _).setCell (by first | omega | (simp; done) | (simp; omega)) _).setCell (by first | omega | (simp; done) | (simp; omega)) _).setCell (by first | omega | (simp; done) | (simp; omega)) _).setCell (by first | omega | (simp; done) | (simp; omega)) _).setCell (by first | omega | (simp; done) | (simp; omega)) _).setCell (by first | omega | (simp; done) | (simp; omega)) _).setCell (by first | omega | (simp; done) | (simp; omega)) _⟩
end WidA
end Go.Proofs.Ytbbiefgmlklafaa
