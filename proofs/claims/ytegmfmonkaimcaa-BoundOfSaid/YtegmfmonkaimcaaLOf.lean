/- Bounds of points: the law's walk. No condition. -/
import Derived.Test.YtegmfmonkaimcaaRef4
import Derived.Test.YtegmfmonkaimcaaAwk
import Derived.Test.YtegmfmonkaimcaaRef1
namespace Go.Proofs.Ytegmfmonkaimcaa
set_option linter.unusedVariables false
set_option linter.unusedSimpArgs false
open Go.RowKit Go.NP
namespace LOf
theorem cf11 (args : Array Value) (w1 : World) : (callFunc 11 args).run Try.prog w1 = .ok (.enter 11 args) w1 := enters Try.func11 (by kernel_rfl) (by kernel_rfl) args w1
theorem cf14 (args : Array Value) (w1 : World) : (callFunc 14 args).run Try.prog w1 = .ok (.enter 14 args) w1 := enters Try.func14 (by kernel_rfl) (by kernel_rfl) args w1
theorem cf15 (args : Array Value) (w1 : World) : (callFunc 15 args).run Try.prog w1 = .ok (.enter 15 args) w1 := enters Try.func15 (by kernel_rfl) (by kernel_rfl) args w1
theorem bcheckC (b : Bd) (w : World) : RetB Try.prog 14 #[.agg #[.int .i64 b.lo.x, .int .i64 b.lo.y, .int .i64 b.lo.z, .int .i64 b.hi.x, .int .i64 b.hi.y, .int .i64 b.hi.z]] w (.int .i64 (errIf b.ok)) := by
  by_cases h : b.ok
  · rw [errIf_pos h]; exact bcheck_ok b w h
  · rw [errIf_neg h]; exact bcheck_no b w h
set_option maxRecDepth 100000 in
set_option maxHeartbeats 2000000 in
theorem law (A : Option Addr) (n cap : Nat) (l : List Pt) (r : Int) (b : Bd) (w : World) (hs : Ref4.SlP w A n l) : RetB Try.prog 3 #[.slice A n cap, .int .i64 r, .agg #[.int .i64 b.lo.x, .int .i64 b.lo.y, .int .i64 b.lo.z, .int .i64 b.hi.x, .int .i64 b.hi.y, .int .i64 b.hi.z]] w (.bool true) := by
  have HS := Lib.hid hs
  clear hs
  unfold RetB
  by_cases hn : n ≤ 300
  · have t1 : decide ((300 : Int) < (n : Int)) = false := decide_eq_false (by omega)
    have HN := Lib.hid hn
    clear hn
    go_enter Try.func3, Try.ntmps3
    go_wp2_with fail
    refine (Ref4.ofA r (HS.out.step ((Below.refl _ _).alloc (Nat.le_refl _) _)) (by have := HN.out; omega)).mono ?_
    rintro e w1 ⟨rfl, hS⟩
    have hW : Below w.heap.size w w1 := ((Below.refl _ _).alloc (Nat.le_refl _) _).trans (hS.mono (by simp))
    have hB : Box w1 w.heap.size [.int .i64 b.lo.x, .int .i64 b.lo.y, .int .i64 b.lo.z, .int .i64 b.hi.x, .int .i64 b.hi.y, .int .i64 b.hi.z] 26 := (Box.new rfl).step hS
    clear hS
    generalize ho : (ofS l r).1 = o
    generalize he : (ofS l r).2 = e
    have HO := Lib.hid ho; have HE := Lib.hid he
    clear ho he
    have hs1 := Lib.hid ((HS.out.step hW).step ((Below.refl _ _).alloc (Nat.le_refl _) (.cells #[.int .i64 o.lo.x, .int .i64 o.lo.y, .int .i64 o.lo.z, .int .i64 o.hi.x, .int .i64 o.hi.y, .int .i64 o.hi.z] 26)))
    go_wp2_with fail
    refine ((Ref4.rofA r hs1.out (by have := HN.out; omega)).eq (v' := .tuple #[.agg #[.int .i64 o.lo.x, .int .i64 o.lo.y, .int .i64 o.lo.z, .int .i64 o.hi.x, .int .i64 o.hi.y, .int .i64 o.hi.z], .int .i64 e]) (by rw [HO.out, HE.out])).mono ?_
    rintro e' w2 ⟨rfl, hS⟩
    have hB2 := (hB.alloc (.cells #[.int .i64 o.lo.x, .int .i64 o.lo.y, .int .i64 o.lo.z, .int .i64 o.hi.x, .int .i64 o.hi.y, .int .i64 o.hi.z] 26)).step hS
    have hO2 : Box w2 w1.heap.size [.int .i64 o.lo.x, .int .i64 o.lo.y, .int .i64 o.lo.z, .int .i64 o.hi.x, .int .i64 o.hi.y, .int .i64 o.hi.z] 26 := (Box.new rfl).step hS
    have hW2 := (hW.alloc hW.size (.cells #[.int .i64 o.lo.x, .int .i64 o.lo.y, .int .i64 o.lo.z, .int .i64 o.hi.x, .int .i64 o.hi.y, .int .i64 o.hi.z] 26)).trans (hS.mono (by have := hW.size; simp; omega))
    clear hS hB hW HS hs1
    generalize w1.heap.size = n1 at *
    have l0 := hB2.lt
    have l1 := hO2.lt
    have hB3 := hB2.alloc (.cells #[.int .i64 o.lo.x, .int .i64 o.lo.y, .int .i64 o.lo.z, .int .i64 o.hi.x, .int .i64 o.hi.y, .int .i64 o.hi.z] 26)
    have hO3 := hO2.alloc (.cells #[.int .i64 o.lo.x, .int .i64 o.lo.y, .int .i64 o.lo.z, .int .i64 o.hi.x, .int .i64 o.hi.y, .int .i64 o.hi.z] 26)
    have hP3 : Box (w2.alloc (.cells #[.int .i64 o.lo.x, .int .i64 o.lo.y, .int .i64 o.lo.z, .int .i64 o.hi.x, .int .i64 o.hi.y, .int .i64 o.hi.z] 26)) w2.heap.size [.int .i64 o.lo.x, .int .i64 o.lo.y, .int .i64 o.lo.z, .int .i64 o.hi.x, .int .i64 o.hi.y, .int .i64 o.hi.z] 26 := Box.new rfl
    have hW3 := hW2.alloc hW2.size (.cells #[.int .i64 o.lo.x, .int .i64 o.lo.y, .int .i64 o.lo.z, .int .i64 o.hi.x, .int .i64 o.hi.y, .int .i64 o.hi.z] 26)
    clear hB2 hO2 hW2
    go_wp2_with fail
    revert hB3 hO3 hP3 hW3
    generalize w2.alloc (.cells #[.int .i64 o.lo.x, .int .i64 o.lo.y, .int .i64 o.lo.z, .int .i64 o.hi.x, .int .i64 o.hi.y, .int .i64 o.hi.z] 26) = w3
    generalize w2.heap.size = n2 at *
    intro hB hO hP hW
    have m0 := hB.lt; have m1 := hO.lt; have m2 := hP.lt
    have x0 := (hB).cell 0; have x1 := (hB).cell 1; have x2 := (hB).cell 2; have x3 := (hB).cell 3; have x4 := (hB).cell 4; have x5 := (hB).cell 5; have xf := (hB).free
    simp only [List.getElem?_cons_zero, List.getElem?_cons_succ] at x0 x1 x2 x3 x4 x5
    have y0 := (hO).cell 0; have y1 := (hO).cell 1; have y2 := (hO).cell 2; have y3 := (hO).cell 3; have y4 := (hO).cell 4; have y5 := (hO).cell 5; have yf := (hO).free
    simp only [List.getElem?_cons_zero, List.getElem?_cons_succ] at y0 y1 y2 y3 y4 y5
    have z0 := (hP).cell 0; have z1 := (hP).cell 1; have z2 := (hP).cell 2; have z3 := (hP).cell 3; have z4 := (hP).cell 4; have z5 := (hP).cell 5; have zf := (hP).free
    simp only [List.getElem?_cons_zero, List.getElem?_cons_succ] at z0 z1 z2 z3 z4 z5
    refine wp_region_ph [(18, .free [])] (by kernel_rfl) (by kernel_rfl) ?_
    refine Ph.belowd ?_
    simp only [List.drop_succ_cons, List.drop_zero, List.take_succ_cons, List.take_zero, Nat.reduceSub, Nat.sub_zero]
    repeat (first | (refine SeqO.skip (by rfl) (by rfl) ?_; simp only [Act.put, List.setIfInBounds_toArray, List.set_cons_zero, List.set_cons_succ])  | (refine SeqO.val (v := ?_) (by rfl) (by rfl) (fun w1 hS => ?_) ?_; rotate_left; (· obtain ⟨hc, hcf⟩ := bcell hS; go_simp; try with_reducible rfl); simp only [Act.put, List.setIfInBounds_toArray, List.set_cons_zero, List.set_cons_succ]))
    refine SeqO.callv (by rfl) (by rfl) (by rfl) cf14 (by simp [Act.eval]) (fun w1 hS => bcheckC b w1) ?_
    simp only [Act.put, List.setIfInBounds_toArray, List.set_cons_zero, List.set_cons_succ]
    iterate 1 (refine SeqO.val (v := ?_) (by rfl) (by rfl) (fun w1 hS => ?_) ?_; rotate_left; (· obtain ⟨hc, hcf⟩ := bcell hS; go_simp; try with_reducible rfl); simp only [Act.put, List.setIfInBounds_toArray, List.set_cons_zero, List.set_cons_succ])
    refine SeqO.callv (by rfl) (by rfl) (by rfl) cf15 (by simp [Act.eval]) (fun w1 hS => rbdC b w1) ?_
    simp only [Act.put, List.setIfInBounds_toArray, List.set_cons_zero, List.set_cons_succ]
    repeat (first | (refine SeqO.skip (by rfl) (by rfl) ?_; simp only [Act.put, List.setIfInBounds_toArray, List.set_cons_zero, List.set_cons_succ])  | (refine SeqO.val (v := ?_) (by rfl) (by rfl) (fun w1 hS => ?_) ?_; rotate_left; (· obtain ⟨hc, hcf⟩ := bcell hS; go_simp; try with_reducible rfl); simp only [Act.put, List.setIfInBounds_toArray, List.set_cons_zero, List.set_cons_succ]))
    refine SeqO.callv (by rfl) (by rfl) (by rfl) cf11 (by simp [Act.eval]) (fun w1 hS => awakeC w1) ?_
    simp only [Act.put, List.setIfInBounds_toArray, List.set_cons_zero, List.set_cons_succ]
    repeat (first | (refine SeqO.skip (by rfl) (by rfl) ?_; simp only [Act.put, List.setIfInBounds_toArray, List.set_cons_zero, List.set_cons_succ])  | (refine SeqO.val (v := ?_) (by rfl) (by rfl) (fun w1 hS => ?_) ?_; rotate_left; (· obtain ⟨hc, hcf⟩ := bcell hS; go_simp; try with_reducible rfl); simp only [Act.put, List.setIfInBounds_toArray, List.set_cons_zero, List.set_cons_succ]))
    refine SeqO.nil0 fun w8 hS => ?_
    refine Ph.last ?_
    simp only [List.drop_succ_cons, List.drop_zero, List.take_succ_cons, List.take_zero, Nat.reduceSub, Nat.sub_zero]
    go_wp2
    exact bodyPost_ret (v := .bool true) (by simp [results, Try.results3, go_sem]) rfl ⟨rfl, hW.trans (hS.mono hW.size)⟩
  · have t1 : decide ((300 : Int) < (n : Int)) = true := decide_eq_true (by omega)
    clear hn
    go_enter Try.func3, Try.ntmps3
    go_wp2_with fail
    refine (awakeC _).mono ?_
    rintro e w2 ⟨rfl, hS⟩
    have hW2 := ((Below.refl w.heap.size w).alloc (Nat.le_refl _) _).trans (hS.mono (by simp))
    go_wp2
    exact bodyPost_ret (v := .bool true) (by simp [results, Try.results3, go_sem]) rfl ⟨rfl, hW2⟩
end LOf
end Go.Proofs.Ytegmfmonkaimcaa
