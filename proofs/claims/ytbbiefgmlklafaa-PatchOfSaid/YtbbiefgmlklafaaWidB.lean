/- Differences and products of integers of 512 bits, in plain numbers: the walks. No condition. -/
import Derived.Test.YtbbiefgmlklafaaWidA
import Derived.Test.YtbbiefgmlklafaaRegC
namespace Go.Proofs.Ytbbiefgmlklafaa
set_option linter.unusedVariables false
set_option linter.unusedSimpArgs false
open Go.RowKit Go.NP
namespace WidB
theorem cf54 (args : Array Value) (w1 : World) : (callFunc 54 args).run Try.prog w1 = .ok (.enter 54 args) w1 := enters Try.func54 (by kernel_rfl) (by kernel_rfl) args w1
theorem cf90 (args : Array Value) (w1 : World) : (callFunc 90 args).run Try.prog w1 = .ok (.enter 90 args) w1 := enters Try.func90 (by kernel_rfl) (by kernel_rfl) args w1
theorem cf31 (args : Array Value) (w1 : World) : (callFunc 31 args).run Try.prog w1 = .ok (.enter 31 args) w1 := enters Try.func31 (by kernel_rfl) (by kernel_rfl) args w1
set_option maxRecDepth 100000 in
set_option maxHeartbeats 4000000 in
theorem subW {x y : Int} (hx : fits x) (hy : fits y) (hxy : fits (x - y)) (w : World) : RetB Try.prog 76 #[.agg #[.int .u64 (w8 x).a, .int .u64 (w8 x).b, .int .u64 (w8 x).c, .int .u64 (w8 x).d, .int .u64 (w8 x).e, .int .u64 (w8 x).f, .int .u64 (w8 x).g, .int .u64 (w8 x).h], .agg #[.int .u64 (w8 y).a, .int .u64 (w8 y).b, .int .u64 (w8 y).c, .int .u64 (w8 y).d, .int .u64 (w8 y).e, .int .u64 (w8 y).f, .int .u64 (w8 y).g, .int .u64 (w8 y).h]] w (.tuple #[.agg #[.int .u64 (w8 (x - y)).a, .int .u64 (w8 (x - y)).b, .int .u64 (w8 (x - y)).c, .int .u64 (w8 (x - y)).d, .int .u64 (w8 (x - y)).e, .int .u64 (w8 (x - y)).f, .int .u64 (w8 (x - y)).g, .int .u64 (w8 (x - y)).h], .bool true]) := by
  have E := Lib.hid (show x + (-y - 1) + 1 = x - y by omega)
  have N1 := Lib.hid (fun w => WidA.negW hx w); have N2 := Lib.hid (fun w => WidA.negW hy w); have N3 := Lib.hid (fun w => WidA.negW hxy w)
  obtain ⟨s1, hs1⟩ : ∃ s, decide (x < 0) = s := ⟨_, rfl⟩
  obtain ⟨s2, hs2⟩ : ∃ s, decide (y < 0) = s := ⟨_, rfl⟩
  obtain ⟨s3, hs3⟩ : ∃ s, decide (x - y < 0) = s := ⟨_, rfl⟩
  have H := Lib.hid (show ¬ s1 = s2 → s3 = s1 by
    intro h
    rw [← hs1, ← hs2] at h
    rw [← hs1, ← hs3]
    apply decide_eq_decide.2
    by_cases h1 : x < 0 <;> by_cases h2 : y < 0
    · exact absurd (by rw [decide_eq_true h1, decide_eq_true h2]) h
    · omega
    · omega
    · exact absurd (by rw [decide_eq_false h1, decide_eq_false h2]) h)
  rw [hs1] at N1; rw [hs2] at N2; rw [hs3] at N3
  clear hs1 hs2 hs3 hx hy hxy
  unfold RetB
  go_enter Try.func76, Try.ntmps76
  go_wp2
  have hA : Box (((w.alloc (.cells [.int .u64 (w8 x).a, .int .u64 (w8 x).b, .int .u64 (w8 x).c, .int .u64 (w8 x).d, .int .u64 (w8 x).e, .int .u64 (w8 x).f, .int .u64 (w8 x).g, .int .u64 (w8 x).h].toArray 37)).alloc (.cells [.int .u64 (w8 y).a, .int .u64 (w8 y).b, .int .u64 (w8 y).c, .int .u64 (w8 y).d, .int .u64 (w8 y).e, .int .u64 (w8 y).f, .int .u64 (w8 y).g, .int .u64 (w8 y).h].toArray 37)).alloc (.cells [.int .u64 0, .int .u64 0, .int .u64 0, .int .u64 0, .int .u64 0, .int .u64 0, .int .u64 0, .int .u64 0].toArray 37)) w.heap.size [.int .u64 (w8 x).a, .int .u64 (w8 x).b, .int .u64 (w8 x).c, .int .u64 (w8 x).d, .int .u64 (w8 x).e, .int .u64 (w8 x).f, .int .u64 (w8 x).g, .int .u64 (w8 x).h] 37 := ((Box.new rfl).alloc _).alloc _
  have hB : Box (((w.alloc (.cells [.int .u64 (w8 x).a, .int .u64 (w8 x).b, .int .u64 (w8 x).c, .int .u64 (w8 x).d, .int .u64 (w8 x).e, .int .u64 (w8 x).f, .int .u64 (w8 x).g, .int .u64 (w8 x).h].toArray 37)).alloc (.cells [.int .u64 (w8 y).a, .int .u64 (w8 y).b, .int .u64 (w8 y).c, .int .u64 (w8 y).d, .int .u64 (w8 y).e, .int .u64 (w8 y).f, .int .u64 (w8 y).g, .int .u64 (w8 y).h].toArray 37)).alloc (.cells [.int .u64 0, .int .u64 0, .int .u64 0, .int .u64 0, .int .u64 0, .int .u64 0, .int .u64 0, .int .u64 0].toArray 37)) (w.heap.size + 1) [.int .u64 (w8 y).a, .int .u64 (w8 y).b, .int .u64 (w8 y).c, .int .u64 (w8 y).d, .int .u64 (w8 y).e, .int .u64 (w8 y).f, .int .u64 (w8 y).g, .int .u64 (w8 y).h] 37 := (Box.new (by simp)).alloc _
  have hR : Box (((w.alloc (.cells [.int .u64 (w8 x).a, .int .u64 (w8 x).b, .int .u64 (w8 x).c, .int .u64 (w8 x).d, .int .u64 (w8 x).e, .int .u64 (w8 x).f, .int .u64 (w8 x).g, .int .u64 (w8 x).h].toArray 37)).alloc (.cells [.int .u64 (w8 y).a, .int .u64 (w8 y).b, .int .u64 (w8 y).c, .int .u64 (w8 y).d, .int .u64 (w8 y).e, .int .u64 (w8 y).f, .int .u64 (w8 y).g, .int .u64 (w8 y).h].toArray 37)).alloc (.cells [.int .u64 0, .int .u64 0, .int .u64 0, .int .u64 0, .int .u64 0, .int .u64 0, .int .u64 0, .int .u64 0].toArray 37)) (w.heap.size + 1 + 1) [.int .u64 0, .int .u64 0, .int .u64 0, .int .u64 0, .int .u64 0, .int .u64 0, .int .u64 0, .int .u64 0] 37 := (Box.new (by simp))
  have hW : Below w.heap.size w (((w.alloc (.cells [.int .u64 (w8 x).a, .int .u64 (w8 x).b, .int .u64 (w8 x).c, .int .u64 (w8 x).d, .int .u64 (w8 x).e, .int .u64 (w8 x).f, .int .u64 (w8 x).g, .int .u64 (w8 x).h].toArray 37)).alloc (.cells [.int .u64 (w8 y).a, .int .u64 (w8 y).b, .int .u64 (w8 y).c, .int .u64 (w8 y).d, .int .u64 (w8 y).e, .int .u64 (w8 y).f, .int .u64 (w8 y).g, .int .u64 (w8 y).h].toArray 37)).alloc (.cells [.int .u64 0, .int .u64 0, .int .u64 0, .int .u64 0, .int .u64 0, .int .u64 0, .int .u64 0, .int .u64 0].toArray 37)) := ((((Below.refl _ _).alloc (Nat.le_refl _) _).alloc (by simp) _).alloc (by simp; omega) _)
  revert hA hB hR hW
  generalize ((w.alloc (.cells [.int .u64 (w8 x).a, .int .u64 (w8 x).b, .int .u64 (w8 x).c, .int .u64 (w8 x).d, .int .u64 (w8 x).e, .int .u64 (w8 x).f, .int .u64 (w8 x).g, .int .u64 (w8 x).h].toArray 37)).alloc (.cells [.int .u64 (w8 y).a, .int .u64 (w8 y).b, .int .u64 (w8 y).c, .int .u64 (w8 y).d, .int .u64 (w8 y).e, .int .u64 (w8 y).f, .int .u64 (w8 y).g, .int .u64 (w8 y).h].toArray 37)).alloc (.cells [.int .u64 0, .int .u64 0, .int .u64 0, .int .u64 0, .int .u64 0, .int .u64 0, .int .u64 0, .int .u64 0].toArray 37) = w2
  intro hA hB hR hW
  have m0 := hA.lt; have m1 := hB.lt; have mR := hR.lt
  have x0 := (hA).cell 0; have x1 := (hA).cell 1; have x2 := (hA).cell 2; have x3 := (hA).cell 3; have x4 := (hA).cell 4; have x5 := (hA).cell 5; have x6 := (hA).cell 6; have x7 := (hA).cell 7; have xf := (hA).free
  simp only [List.getElem?_cons_zero, List.getElem?_cons_succ] at x0 x1 x2 x3 x4 x5 x6 x7
  have y0 := (hB).cell 0; have y1 := (hB).cell 1; have y2 := (hB).cell 2; have y3 := (hB).cell 3; have y4 := (hB).cell 4; have y5 := (hB).cell 5; have y6 := (hB).cell 6; have y7 := (hB).cell 7; have yf := (hB).free
  simp only [List.getElem?_cons_zero, List.getElem?_cons_succ] at y0 y1 y2 y3 y4 y5 y6 y7
  refine wp_region_ph [(7, .free [6])] (by kernel_rfl) (by kernel_rfl) ?_
  refine Ph.maded [(6, [.int .u64 0, .int .u64 0, .int .u64 0, .int .u64 0, .int .u64 0, .int .u64 0, .int .u64 0, .int .u64 0], 77)] (by rfl) ?_
  simp only [List.drop_succ_cons, List.drop_zero, List.take_succ_cons, List.take_zero, Nat.reduceSub, Nat.sub_zero]
  iterate 4 (refine SeqO.val (v := ?_) (by rfl) (by rfl) (fun w1 hS => ?_) ?_; rotate_left; (· obtain ⟨hc, hcf⟩ := bcell hS; go_simp; try with_reducible rfl); simp only [Act.put, List.setIfInBounds_toArray, List.set_cons_zero, List.set_cons_succ])
  refine SeqO.callv (by rfl) (by rfl) (by rfl) cf90 (by simp [Act.eval]) (fun w1 hS => WidA.notW y w1) ?_
  simp only [Act.put, List.setIfInBounds_toArray, List.set_cons_zero, List.set_cons_succ]
  refine SeqO.callv (by rfl) (by rfl) (by rfl) cf54 (by simp [Act.eval]) (fun w1 hS => (WidA.plusW (x := x) (y := -y - 1) (c := 1) ⟨by decide, by decide⟩ w1).eq (by rw [E.out])) ?_
  simp only [Act.put, List.setIfInBounds_toArray, List.set_cons_zero, List.set_cons_succ]
  refine SeqO.alloc (cs := [.int .u64 0, .int .u64 0, .int .u64 0, .int .u64 0, .int .u64 0, .int .u64 0, .int .u64 0, .int .u64 0]) (Ty := 77) (by rfl) ⟨77, by simp⟩ (by rfl) (by simp) (by rfl) (fun w => by go_simp) ?_
  refine SeqO.nil fun L u w3 hL hK => ?_
  obtain ⟨g, hg, hge, hbx⟩ := hK.made _ (List.mem_cons_self) (hL 6 (by omega))
  have hS := hK.below
  clear hK hL
  simp only [List.nil_append, List.foldl_cons, List.foldl_nil, hg]
  refine Ph.last ?_
  simp only [List.drop_succ_cons, List.drop_zero, List.take_succ_cons, List.take_zero, Nat.reduceSub, Nat.sub_zero]
  clear hg
  have hA := hA.step hS; have hB := hB.step hS; have hR := hR.step hS; have hle := hW.size; have hW := hW.trans (hS.mono hW.size)
  have hP : Box w3 g [.int .u64 0, .int .u64 0, .int .u64 0, .int .u64 0, .int .u64 0, .int .u64 0, .int .u64 0, .int .u64 0] 77 := hbx
  have hge : w2.heap.size ≤ g := hge
  clear x0 x1 x2 x3 x4 x5 x6 x7 xf
  clear y0 y1 y2 y3 y4 y5 y6 y7 yf
  clear hbx hS
  have z0 := (hP).cell 0; have z1 := (hP).cell 1; have z2 := (hP).cell 2; have z3 := (hP).cell 3; have z4 := (hP).cell 4; have z5 := (hP).cell 5; have z6 := (hP).cell 6; have z7 := (hP).cell 7; have zf := (hP).free
  simp only [List.getElem?_cons_zero, List.getElem?_cons_succ] at z0 z1 z2 z3 z4 z5 z6 z7
  refine wpList_store (w' := (((((((w3.setCell ⟨g, 0, none⟩ (.int .u64 (w8 (x - y)).a)).setCell ⟨g, 1, none⟩ (.int .u64 (w8 (x - y)).b)).setCell ⟨g, 2, none⟩ (.int .u64 (w8 (x - y)).c)).setCell ⟨g, 3, none⟩ (.int .u64 (w8 (x - y)).d)).setCell ⟨g, 4, none⟩ (.int .u64 (w8 (x - y)).e)).setCell ⟨g, 5, none⟩ (.int .u64 (w8 (x - y)).f)).setCell ⟨g, 6, none⟩ (.int .u64 (w8 (x - y)).g)).setCell ⟨g, 7, none⟩ (.int .u64 (w8 (x - y)).h)) (by rfl) (by go_simp) ?_
  have hA4 : Box ((((((((w3.setCell ⟨g, 0, none⟩ (.int .u64 (w8 (x - y)).a)).setCell ⟨g, 1, none⟩ (.int .u64 (w8 (x - y)).b)).setCell ⟨g, 2, none⟩ (.int .u64 (w8 (x - y)).c)).setCell ⟨g, 3, none⟩ (.int .u64 (w8 (x - y)).d)).setCell ⟨g, 4, none⟩ (.int .u64 (w8 (x - y)).e)).setCell ⟨g, 5, none⟩ (.int .u64 (w8 (x - y)).f)).setCell ⟨g, 6, none⟩ (.int .u64 (w8 (x - y)).g)).setCell ⟨g, 7, none⟩ (.int .u64 (w8 (x - y)).h)) w.heap.size [.int .u64 (w8 x).a, .int .u64 (w8 x).b, .int .u64 (w8 x).c, .int .u64 (w8 x).d, .int .u64 (w8 x).e, .int .u64 (w8 x).f, .int .u64 (w8 x).g, .int .u64 (w8 x).h] 37 := ((((((((hA).other (by simp; omega) _).other (by simp; omega) _).other (by simp; omega) _).other (by simp; omega) _).other (by simp; omega) _).other (by simp; omega) _).other (by simp; omega) _).other (by simp; omega) _
  have hB4 : Box ((((((((w3.setCell ⟨g, 0, none⟩ (.int .u64 (w8 (x - y)).a)).setCell ⟨g, 1, none⟩ (.int .u64 (w8 (x - y)).b)).setCell ⟨g, 2, none⟩ (.int .u64 (w8 (x - y)).c)).setCell ⟨g, 3, none⟩ (.int .u64 (w8 (x - y)).d)).setCell ⟨g, 4, none⟩ (.int .u64 (w8 (x - y)).e)).setCell ⟨g, 5, none⟩ (.int .u64 (w8 (x - y)).f)).setCell ⟨g, 6, none⟩ (.int .u64 (w8 (x - y)).g)).setCell ⟨g, 7, none⟩ (.int .u64 (w8 (x - y)).h)) (w.heap.size + 1) [.int .u64 (w8 y).a, .int .u64 (w8 y).b, .int .u64 (w8 y).c, .int .u64 (w8 y).d, .int .u64 (w8 y).e, .int .u64 (w8 y).f, .int .u64 (w8 y).g, .int .u64 (w8 y).h] 37 := ((((((((hB).other (by simp; omega) _).other (by simp; omega) _).other (by simp; omega) _).other (by simp; omega) _).other (by simp; omega) _).other (by simp; omega) _).other (by simp; omega) _).other (by simp; omega) _
  have hR4 : Box ((((((((w3.setCell ⟨g, 0, none⟩ (.int .u64 (w8 (x - y)).a)).setCell ⟨g, 1, none⟩ (.int .u64 (w8 (x - y)).b)).setCell ⟨g, 2, none⟩ (.int .u64 (w8 (x - y)).c)).setCell ⟨g, 3, none⟩ (.int .u64 (w8 (x - y)).d)).setCell ⟨g, 4, none⟩ (.int .u64 (w8 (x - y)).e)).setCell ⟨g, 5, none⟩ (.int .u64 (w8 (x - y)).f)).setCell ⟨g, 6, none⟩ (.int .u64 (w8 (x - y)).g)).setCell ⟨g, 7, none⟩ (.int .u64 (w8 (x - y)).h)) (w.heap.size + 1 + 1) [.int .u64 0, .int .u64 0, .int .u64 0, .int .u64 0, .int .u64 0, .int .u64 0, .int .u64 0, .int .u64 0] 37 := ((((((((hR).other (by simp; omega) _).other (by simp; omega) _).other (by simp; omega) _).other (by simp; omega) _).other (by simp; omega) _).other (by simp; omega) _).other (by simp; omega) _).other (by simp; omega) _
  have hP4 : Box ((((((((w3.setCell ⟨g, 0, none⟩ (.int .u64 (w8 (x - y)).a)).setCell ⟨g, 1, none⟩ (.int .u64 (w8 (x - y)).b)).setCell ⟨g, 2, none⟩ (.int .u64 (w8 (x - y)).c)).setCell ⟨g, 3, none⟩ (.int .u64 (w8 (x - y)).d)).setCell ⟨g, 4, none⟩ (.int .u64 (w8 (x - y)).e)).setCell ⟨g, 5, none⟩ (.int .u64 (w8 (x - y)).f)).setCell ⟨g, 6, none⟩ (.int .u64 (w8 (x - y)).g)).setCell ⟨g, 7, none⟩ (.int .u64 (w8 (x - y)).h)) g [.int .u64 (w8 (x - y)).a, .int .u64 (w8 (x - y)).b, .int .u64 (w8 (x - y)).c, .int .u64 (w8 (x - y)).d, .int .u64 (w8 (x - y)).e, .int .u64 (w8 (x - y)).f, .int .u64 (w8 (x - y)).g, .int .u64 (w8 (x - y)).h] 77 := ((((((((hP).set 0 _).set 1 _).set 2 _).set 3 _).set 4 _).set 5 _).set 6 _).set 7 _
  have hW4 : Below w.heap.size w ((((((((w3.setCell ⟨g, 0, none⟩ (.int .u64 (w8 (x - y)).a)).setCell ⟨g, 1, none⟩ (.int .u64 (w8 (x - y)).b)).setCell ⟨g, 2, none⟩ (.int .u64 (w8 (x - y)).c)).setCell ⟨g, 3, none⟩ (.int .u64 (w8 (x - y)).d)).setCell ⟨g, 4, none⟩ (.int .u64 (w8 (x - y)).e)).setCell ⟨g, 5, none⟩ (.int .u64 (w8 (x - y)).f)).setCell ⟨g, 6, none⟩ (.int .u64 (w8 (x - y)).g)).setCell ⟨g, 7, none⟩ (.int .u64 (w8 (x - y)).h)) := ((((((((hW).setCell (by first | omega | (simp; done) | (simp; omega)) _).setCell (by first | omega | (simp; done) | (simp; omega)) _).setCell (by first | omega | (simp; done) | (simp; omega)) _).setCell (by first | omega | (simp; done) | (simp; omega)) _).setCell (by first | omega | (simp; done) | (simp; omega)) _).setCell (by first | omega | (simp; done) | (simp; omega)) _).setCell (by first | omega | (simp; done) | (simp; omega)) _).setCell (by first | omega | (simp; done) | (simp; omega)) _
  revert hA4 hB4 hR4 hP4 hW4
  generalize (((((((w3.setCell ⟨g, 0, none⟩ (.int .u64 (w8 (x - y)).a)).setCell ⟨g, 1, none⟩ (.int .u64 (w8 (x - y)).b)).setCell ⟨g, 2, none⟩ (.int .u64 (w8 (x - y)).c)).setCell ⟨g, 3, none⟩ (.int .u64 (w8 (x - y)).d)).setCell ⟨g, 4, none⟩ (.int .u64 (w8 (x - y)).e)).setCell ⟨g, 5, none⟩ (.int .u64 (w8 (x - y)).f)).setCell ⟨g, 6, none⟩ (.int .u64 (w8 (x - y)).g)).setCell ⟨g, 7, none⟩ (.int .u64 (w8 (x - y)).h) = w4
  clear z0 z1 z2 z3 z4 z5 z6 z7 zf
  clear hA hB hR hP hW
  intro hA hB hR hP hW
  have m3 : w.heap.size + 1 + 1 < g := by omega
  clear m0 m1 hle hge mR
  have m0 := hA.lt; have m1 := hB.lt; have m2 := hP.lt
  have x0 := (hA).cell 0; have x1 := (hA).cell 1; have x2 := (hA).cell 2; have x3 := (hA).cell 3; have x4 := (hA).cell 4; have x5 := (hA).cell 5; have x6 := (hA).cell 6; have x7 := (hA).cell 7; have xf := (hA).free
  simp only [List.getElem?_cons_zero, List.getElem?_cons_succ] at x0 x1 x2 x3 x4 x5 x6 x7
  have y0 := (hB).cell 0; have y1 := (hB).cell 1; have y2 := (hB).cell 2; have y3 := (hB).cell 3; have y4 := (hB).cell 4; have y5 := (hB).cell 5; have y6 := (hB).cell 6; have y7 := (hB).cell 7; have yf := (hB).free
  simp only [List.getElem?_cons_zero, List.getElem?_cons_succ] at y0 y1 y2 y3 y4 y5 y6 y7
  have z0 := (hP).cell 0; have z1 := (hP).cell 1; have z2 := (hP).cell 2; have z3 := (hP).cell 3; have z4 := (hP).cell 4; have z5 := (hP).cell 5; have z6 := (hP).cell 6; have z7 := (hP).cell 7; have zf := (hP).free
  simp only [List.getElem?_cons_zero, List.getElem?_cons_succ] at z0 z1 z2 z3 z4 z5 z6 z7
  go_wp2
  by_cases h : s1 = s2
  · subst h
    refine wp_region_ph [(15, .free [])] (by kernel_rfl) (by kernel_rfl) ?_
    refine Ph.belowd ?_
    simp only [List.drop_succ_cons, List.drop_zero, List.take_succ_cons, List.take_zero, Nat.reduceSub, Nat.sub_zero]
    iterate 2 (refine SeqO.val (v := ?_) (by rfl) (by rfl) (fun w1 hS => ?_) ?_; rotate_left; (· obtain ⟨hc, hcf⟩ := bcell hS; go_simp; try with_reducible rfl); simp only [Act.put, List.setIfInBounds_toArray, List.set_cons_zero, List.set_cons_succ])
    refine SeqO.callv (by rfl) (by rfl) (by rfl) cf31 (by simp [Act.eval]) (fun w1 hS => N1.out w1) ?_
    simp only [Act.put, List.setIfInBounds_toArray, List.set_cons_zero, List.set_cons_succ]
    iterate 2 (refine SeqO.val (v := ?_) (by rfl) (by rfl) (fun w1 hS => ?_) ?_; rotate_left; (· obtain ⟨hc, hcf⟩ := bcell hS; go_simp; try with_reducible rfl); simp only [Act.put, List.setIfInBounds_toArray, List.set_cons_zero, List.set_cons_succ])
    refine SeqO.callv (by rfl) (by rfl) (by rfl) cf31 (by simp [Act.eval]) (fun w1 hS => N2.out w1) ?_
    simp only [Act.put, List.setIfInBounds_toArray, List.set_cons_zero, List.set_cons_succ]
    repeat (first | (refine SeqO.skip (by rfl) (by rfl) ?_; simp only [Act.put, List.setIfInBounds_toArray, List.set_cons_zero, List.set_cons_succ])  | (refine SeqO.val (v := ?_) (by rfl) (by rfl) (fun w1 hS => ?_) ?_; rotate_left; (· obtain ⟨hc, hcf⟩ := bcell hS; go_simp; try with_reducible rfl); simp only [Act.put, List.setIfInBounds_toArray, List.set_cons_zero, List.set_cons_succ]))
    refine SeqO.nil0 fun w5 hS => ?_
    have hP := hP.step hS; have hR := hR.step hS; have hW := hW.trans (hS.mono hW.size)
    refine Ph.last ?_
    simp only [List.drop_succ_cons, List.drop_zero, List.take_succ_cons, List.take_zero, Nat.reduceSub, Nat.sub_zero]
    clear x0 x1 x2 x3 x4 x5 x6 x7 xf
    clear y0 y1 y2 y3 y4 y5 y6 y7 yf
    clear z0 z1 z2 z3 z4 z5 z6 z7 zf
    clear hS hA hB m0 m1 m2
    have z0 := (hP).cell 0; have z1 := (hP).cell 1; have z2 := (hP).cell 2; have z3 := (hP).cell 3; have z4 := (hP).cell 4; have z5 := (hP).cell 5; have z6 := (hP).cell 6; have z7 := (hP).cell 7; have zf := (hP).free
    simp only [List.getElem?_cons_zero, List.getElem?_cons_succ] at z0 z1 z2 z3 z4 z5 z6 z7
    have q0 := (hR).cell 0; have q1 := (hR).cell 1; have q2 := (hR).cell 2; have q3 := (hR).cell 3; have q4 := (hR).cell 4; have q5 := (hR).cell 5; have q6 := (hR).cell 6; have q7 := (hR).cell 7; have qf := (hR).free
    simp only [List.getElem?_cons_zero, List.getElem?_cons_succ] at q0 q1 q2 q3 q4 q5 q6 q7
    have m2 := hP.lt; have m3 := hR.lt
    go_wp2
    exact bodyPost_ret (v := .tuple #[.agg #[.int .u64 (w8 (x - y)).a, .int .u64 (w8 (x - y)).b, .int .u64 (w8 (x - y)).c, .int .u64 (w8 (x - y)).d, .int .u64 (w8 (x - y)).e, .int .u64 (w8 (x - y)).f, .int .u64 (w8 (x - y)).g, .int .u64 (w8 (x - y)).h], .bool true]) (by simp [results, Try.results76, go_sem, *]) rfl ⟨rfl, ((((((((hW).setCell (by first | omega | (simp; done) | (simp; omega)) _).setCell (by first | omega | (simp; done) | (simp; omega)) _).setCell (by first | omega | (simp; done) | (simp; omega)) _).setCell (by first | omega | (simp; done) | (simp; omega)) _).setCell (by first | omega | (simp; done) | (simp; omega)) _).setCell (by first | omega | (simp; done) | (simp; omega)) _).setCell (by first | omega | (simp; done) | (simp; omega)) _).setCell (by first | omega | (simp; done) | (simp; omega)) _⟩
  · have e3 := H.out h
    have h2 : s2 = !s1 := by revert h; cases s1 <;> cases s2 <;> simp
    subst h2; subst e3
    cases s3
    all_goals
      refine wp_region_ph [(15, .free [])] (by kernel_rfl) (by kernel_rfl) ?_
      refine Ph.belowd ?_
      simp only [List.drop_succ_cons, List.drop_zero, List.take_succ_cons, List.take_zero, Nat.reduceSub, Nat.sub_zero]
      iterate 2 (refine SeqO.val (v := ?_) (by rfl) (by rfl) (fun w1 hS => ?_) ?_; rotate_left; (· obtain ⟨hc, hcf⟩ := bcell hS; go_simp; try with_reducible rfl); simp only [Act.put, List.setIfInBounds_toArray, List.set_cons_zero, List.set_cons_succ])
      refine SeqO.callv (by rfl) (by rfl) (by rfl) cf31 (by simp [Act.eval]) (fun w1 hS => N1.out w1) ?_
      simp only [Act.put, List.setIfInBounds_toArray, List.set_cons_zero, List.set_cons_succ]
      iterate 2 (refine SeqO.val (v := ?_) (by rfl) (by rfl) (fun w1 hS => ?_) ?_; rotate_left; (· obtain ⟨hc, hcf⟩ := bcell hS; go_simp; try with_reducible rfl); simp only [Act.put, List.setIfInBounds_toArray, List.set_cons_zero, List.set_cons_succ])
      refine SeqO.callv (by rfl) (by rfl) (by rfl) cf31 (by simp [Act.eval]) (fun w1 hS => N2.out w1) ?_
      simp only [Act.put, List.setIfInBounds_toArray, List.set_cons_zero, List.set_cons_succ]
      iterate 3 (refine SeqO.val (v := ?_) (by rfl) (by rfl) (fun w1 hS => ?_) ?_; rotate_left; (· obtain ⟨hc, hcf⟩ := bcell hS; go_simp; try with_reducible rfl); simp only [Act.put, List.setIfInBounds_toArray, List.set_cons_zero, List.set_cons_succ])
      refine SeqO.callv (by rfl) (by rfl) (by rfl) cf31 (by simp [Act.eval]) (fun w1 hS => N3.out w1) ?_
      simp only [Act.put, List.setIfInBounds_toArray, List.set_cons_zero, List.set_cons_succ]
      iterate 2 (refine SeqO.val (v := ?_) (by rfl) (by rfl) (fun w1 hS => ?_) ?_; rotate_left; (· obtain ⟨hc, hcf⟩ := bcell hS; go_simp; try with_reducible rfl); simp only [Act.put, List.setIfInBounds_toArray, List.set_cons_zero, List.set_cons_succ])
      refine SeqO.callv (by rfl) (by rfl) (by rfl) cf31 (by simp [Act.eval]) (fun w1 hS => N1.out w1) ?_
      simp only [Act.put, List.setIfInBounds_toArray, List.set_cons_zero, List.set_cons_succ]
      iterate 2 (refine SeqO.val (v := ?_) (by rfl) (by rfl) (fun w1 hS => ?_) ?_; rotate_left; (· obtain ⟨hc, hcf⟩ := bcell hS; go_simp; try with_reducible rfl); simp only [Act.put, List.setIfInBounds_toArray, List.set_cons_zero, List.set_cons_succ])
      refine SeqO.nil0 fun w5 hS => ?_
      have hP := hP.step hS; have hR := hR.step hS; have hW := hW.trans (hS.mono hW.size)
      refine Ph.last ?_
      simp only [List.drop_succ_cons, List.drop_zero, List.take_succ_cons, List.take_zero, Nat.reduceSub, Nat.sub_zero]
      clear x0 x1 x2 x3 x4 x5 x6 x7 xf
      clear y0 y1 y2 y3 y4 y5 y6 y7 yf
      clear z0 z1 z2 z3 z4 z5 z6 z7 zf
      clear hS hA hB m0 m1 m2
      have z0 := (hP).cell 0; have z1 := (hP).cell 1; have z2 := (hP).cell 2; have z3 := (hP).cell 3; have z4 := (hP).cell 4; have z5 := (hP).cell 5; have z6 := (hP).cell 6; have z7 := (hP).cell 7; have zf := (hP).free
      simp only [List.getElem?_cons_zero, List.getElem?_cons_succ] at z0 z1 z2 z3 z4 z5 z6 z7
      have q0 := (hR).cell 0; have q1 := (hR).cell 1; have q2 := (hR).cell 2; have q3 := (hR).cell 3; have q4 := (hR).cell 4; have q5 := (hR).cell 5; have q6 := (hR).cell 6; have q7 := (hR).cell 7; have qf := (hR).free
      simp only [List.getElem?_cons_zero, List.getElem?_cons_succ] at q0 q1 q2 q3 q4 q5 q6 q7
      have m2 := hP.lt; have m3 := hR.lt
      go_wp2
      exact bodyPost_ret (v := .tuple #[.agg #[.int .u64 (w8 (x - y)).a, .int .u64 (w8 (x - y)).b, .int .u64 (w8 (x - y)).c, .int .u64 (w8 (x - y)).d, .int .u64 (w8 (x - y)).e, .int .u64 (w8 (x - y)).f, .int .u64 (w8 (x - y)).g, .int .u64 (w8 (x - y)).h], .bool true]) (by simp [results, Try.results76, go_sem, *]) rfl ⟨rfl, ((((((((hW).setCell (by first | omega | (simp; done) | (simp; omega)) _).setCell (by first | omega | (simp; done) | (simp; omega)) _).setCell (by first | omega | (simp; done) | (simp; omega)) _).setCell (by first | omega | (simp; done) | (simp; omega)) _).setCell (by first | omega | (simp; done) | (simp; omega)) _).setCell (by first | omega | (simp; done) | (simp; omega)) _).setCell (by first | omega | (simp; done) | (simp; omega)) _).setCell (by first | omega | (simp; done) | (simp; omega)) _⟩
/-- A factor of one word. -/
def half (x : Int) : Prop := -9223372036854775807 ≤ x ∧ x ≤ 9223372036854775807
theorem half_abs {x : Int} (h : half x) : isW (x.natAbs : Int) := by unfold half at h; unfold isW; omega
theorem half_fits {x : Int} (h : half x) : fits x := by
  have e : (2 : Int) ^ 63 = 9223372036854775808 := by decide
  unfold half at h
  exact ⟨63, by omega, by omega, by omega⟩
theorem half_mul {x y : Int} (hx : half x) (hy : half y) : (x.natAbs : Int) * (y.natAbs : Int) ≤ 85070591730234615847396907784232501249 := by
  have h1 : (x.natAbs : Int) ≤ 9223372036854775807 := by unfold half at hx; omega
  have h2 : (y.natAbs : Int) ≤ 9223372036854775807 := by unfold half at hy; omega
  have : (x.natAbs : Int) * (y.natAbs : Int) ≤ 9223372036854775807 * 9223372036854775807 := Int.mul_le_mul h1 h2 (by omega) (by decide)
  simpa using this
theorem mulW {x y : Int} (hx : half x) (hy : half y) (w : World) : RetB Try.prog 35 #[.agg #[.int .u64 (w8 x).a, .int .u64 (w8 x).b, .int .u64 (w8 x).c, .int .u64 (w8 x).d, .int .u64 (w8 x).e, .int .u64 (w8 x).f, .int .u64 (w8 x).g, .int .u64 (w8 x).h], .agg #[.int .u64 (w8 y).a, .int .u64 (w8 y).b, .int .u64 (w8 y).c, .int .u64 (w8 y).d, .int .u64 (w8 y).e, .int .u64 (w8 y).f, .int .u64 (w8 y).g, .int .u64 (w8 y).h]] w (.tuple #[.agg #[.int .u64 (w8 (x * y)).a, .int .u64 (w8 (x * y)).b, .int .u64 (w8 (x * y)).c, .int .u64 (w8 (x * y)).d, .int .u64 (w8 (x * y)).e, .int .u64 (w8 (x * y)).f, .int .u64 (w8 (x * y)).g, .int .u64 (w8 (x * y)).h], .bool true]) := by
  have fx := half_fits hx; have fy := half_fits hy
  have ax := half_abs hx; have ay := half_abs hy
  obtain ⟨e1, e2⟩ := mul64_eq ax ay
  have hm := half_mul hx hy
  have hm0 : 0 ≤ (x.natAbs : Int) * (y.natAbs : Int) := Int.mul_nonneg (by omega) (by omega)
  have hp := abs_mul x y
  generalize hpp : (x.natAbs : Int) * (y.natAbs : Int) = p at *
  have hlo : isW (loR (x.natAbs : Int) (y.natAbs : Int)) := by rw [e2]; unfold isW; omega
  have hhi : isW (hiR (x.natAbs : Int) (y.natAbs : Int)) := by rw [e1]; unfold isW; omega
  have ht : two8 (loR (x.natAbs : Int) (y.natAbs : Int)) (hiR (x.natAbs : Int) (y.natAbs : Int)) = w8 p := by
    rw [two_w8 hlo hhi, e1, e2]; congr 1; omega
  have hs : (topB (w8 x).h != topB (w8 y).h) = !(decide (decide (x < 0) = decide (y < 0))) := by
    rw [top_w8 fx, top_w8 fy]
    cases decide (x < 0) <;> cases decide (y < 0) <;> rfl
  have hv : sgn8 (two8 (loR (x.natAbs : Int) (y.natAbs : Int)) (hiR (x.natAbs : Int) (y.natAbs : Int))) (topB (w8 x).h != topB (w8 y).h) = w8 (x * y) := by
    rw [ht, hs, sgn_w8, hp]
    congr 1
    by_cases h : decide (x < 0) = decide (y < 0)
    · rw [if_pos h, if_neg (by simp [h])]
    · rw [if_neg h, if_pos (by simp [h])]
  have hfit : fits (x * y) := by
    rw [hp]
    have e : (2 : Int) ^ 127 = 170141183460469231731687303715884105728 := by decide
    refine ⟨127, by omega, ?_, ?_⟩ <;> rw [e] <;> split <;> omega
  have hb : sgn8 (two8 (loR (x.natAbs : Int) (y.natAbs : Int)) (hiR (x.natAbs : Int) (y.natAbs : Int))) (topB (w8 x).h != topB (w8 y).h) = z8 ∨ topB (sgn8 (two8 (loR (x.natAbs : Int) (y.natAbs : Int)) (hiR (x.natAbs : Int) (y.natAbs : Int))) (topB (w8 x).h != topB (w8 y).h)).h = (topB (w8 x).h != topB (w8 y).h) := by
    rw [hv, hs]
    by_cases hz : p = 0
    · left
      rw [z8_w8, hp, hz]; split <;> rfl
    · right
      rw [top_w8 hfit, hp]
      by_cases h : decide (x < 0) = decide (y < 0)
      · rw [if_pos h, decide_eq_true h, decide_eq_false (by omega)]; rfl
      · rw [if_neg h, decide_eq_false h, decide_eq_true (by omega)]; rfl
  have := mulC (w8 x) (w8 y) (w8_ok x) (w8_ok y) (x.natAbs : Int) (y.natAbs : Int) ((size_w8 fx).trans (one_w8 ax).symm) ((size_w8 fy).trans (one_w8 ay).symm) ax ay hb w
  rw [hv] at this
  exact this
end WidB
end Go.Proofs.Ytbbiefgmlklafaa
