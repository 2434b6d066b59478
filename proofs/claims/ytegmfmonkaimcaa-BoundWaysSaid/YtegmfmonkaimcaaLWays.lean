/- Ways and bounds: the law's walk. No condition. -/
import Derived.Test.YtegmfmonkaimcaaLaw3
import Derived.Test.YtegmfmonkaimcaaLShared
import Derived.Deep.DeepCutAuto
namespace Go.Proofs.Ytegmfmonkaimcaa
set_option linter.unusedVariables false
set_option linter.unusedSimpArgs false
open Go.RowKit Go.NP
namespace LWays
theorem cf11 (args : Array Value) (w1 : World) : (callFunc 11 args).run Try.prog w1 = .ok (.enter 11 args) w1 := enters Try.func11 (by kernel_rfl) (by kernel_rfl) args w1
theorem cf29 (args : Array Value) (w1 : World) : (callFunc 29 args).run Try.prog w1 = .ok (.enter 29 args) w1 := enters Try.func29 (by kernel_rfl) (by kernel_rfl) args w1
theorem cf23 (args : Array Value) (w1 : World) : (callFunc 23 args).run Try.prog w1 = .ok (.enter 23 args) w1 := enters Try.func23 (by kernel_rfl) (by kernel_rfl) args w1
theorem cf24 (args : Array Value) (w1 : World) : (callFunc 24 args).run Try.prog w1 = .ok (.enter 24 args) w1 := enters Try.func24 (by kernel_rfl) (by kernel_rfl) args w1
theorem cf20 (args : Array Value) (w1 : World) : (callFunc 20 args).run Try.prog w1 = .ok (.enter 20 args) w1 := enters Try.func20 (by kernel_rfl) (by kernel_rfl) args w1
theorem cf16 (args : Array Value) (w1 : World) : (callFunc 16 args).run Try.prog w1 = .ok (.enter 16 args) w1 := enters Try.func16 (by kernel_rfl) (by kernel_rfl) args w1
theorem hit_false {a : Bd} {f t : Pt} (h : ¬ (a.ok ∧ f.ok ∧ t.ok)) : hitS a f t = false := hit_no h
theorem ofTwo (f t : Pt) (b : Nat) (w : World) (hb : Box w b [.int .i64 f.x, .int .i64 f.y, .int .i64 f.z, .int .i64 t.x, .int .i64 t.y, .int .i64 t.z] 24) :
    RetB Try.prog 12 #[.slice (some ⟨b, 0, none⟩) 2 2, .int .i64 0] w (.tuple #[.agg #[.int .i64 (ofS [f, t] 0).1.lo.x, .int .i64 (ofS [f, t] 0).1.lo.y, .int .i64 (ofS [f, t] 0).1.lo.z, .int .i64 (ofS [f, t] 0).1.hi.x, .int .i64 (ofS [f, t] 0).1.hi.y, .int .i64 (ofS [f, t] 0).1.hi.z], .int .i64 (ofS [f, t] 0).2]) :=
  ofC f [t] 0 b 0 2 w hb.lt (pAt_two hb) (by simp) (by omega) (by omega)
set_option maxRecDepth 100000 in
set_option maxHeartbeats 2000000 in
theorem ways_no (a : Bd) (f t : Pt) (r : Int) (w : World) (hn : ¬ (f.ok ∧ t.ok)) : RetB Try.prog 10 #[.agg #[.int .i64 a.lo.x, .int .i64 a.lo.y, .int .i64 a.lo.z, .int .i64 a.hi.x, .int .i64 a.hi.y, .int .i64 a.hi.z], .agg #[.int .i64 f.x, .int .i64 f.y, .int .i64 f.z], .agg #[.int .i64 t.x, .int .i64 t.y, .int .i64 t.z], .int .i64 r] w (.bool true) := by
  have E0 := Lib.hid (show hitS a f t = false from hit_false fun h => hn h.2)
  have E1 := Lib.hid (hit_rev a f t)
  have E2 := Lib.hid (ofS_no hn 0)
  clear hn
  unfold RetB
  go_enter Try.func10, Try.ntmps10
  go_wp2_with fail
  refine ((hitC a f t _).eq (v' := .bool false) (by rw [E0.out])).mono ?_
  rintro e w1 ⟨rfl, hS⟩
  have hA : Box w1 w.heap.size [.int .i64 a.lo.x, .int .i64 a.lo.y, .int .i64 a.lo.z, .int .i64 a.hi.x, .int .i64 a.hi.y, .int .i64 a.hi.z] 26 := (((Box.new rfl).alloc _).alloc _).step hS
  have hF : Box w1 (w.heap.size + 1) [.int .i64 f.x, .int .i64 f.y, .int .i64 f.z] 24 := ((Box.new (by simp)).alloc _).step hS
  have hT : Box w1 (w.heap.size + 1 + 1) [.int .i64 t.x, .int .i64 t.y, .int .i64 t.z] 24 := (Box.new (by simp)).step hS
  have hW : Below w.heap.size w w1 := ((((Below.refl _ _).alloc (Nat.le_refl _) _).alloc (by simp) _).alloc (by simp; omega) _).trans (hS.mono (by simp; omega))
  clear hS
  have x0 := (hA).cell 0; have x1 := (hA).cell 1; have x2 := (hA).cell 2; have x3 := (hA).cell 3; have x4 := (hA).cell 4; have x5 := (hA).cell 5; have xf := (hA).free
  simp only [List.getElem?_cons_zero, List.getElem?_cons_succ] at x0 x1 x2 x3 x4 x5
  have y0 := (hF).cell 0; have y1 := (hF).cell 1; have y2 := (hF).cell 2; have yf := (hF).free
  simp only [List.getElem?_cons_zero, List.getElem?_cons_succ] at y0 y1 y2
  have z0 := (hT).cell 0; have z1 := (hT).cell 1; have z2 := (hT).cell 2; have zf := (hT).free
  simp only [List.getElem?_cons_zero, List.getElem?_cons_succ] at z0 z1 z2
  have l0 := hA.lt; have l1 := hF.lt; have l2 := hT.lt
  go_wp2_with fail
  refine ((hitC a t f _).eq (v' := .bool false) (by rw [E1.out, E0.out])).mono ?_
  rintro e w2 ⟨rfl, hS⟩
  have hA2 := hA.step hS; have hF2 := hF.step hS; have hT2 := hT.step hS; have hW2 := hW.trans (hS.mono hW.size)
  clear hS
  clear x0 x1 x2 x3 x4 x5 xf
  clear y0 y1 y2 yf
  clear z0 z1 z2 zf
  clear hA hF hT hW l0 l1 l2
  have y0 := (hF2).cell 0; have y1 := (hF2).cell 1; have y2 := (hF2).cell 2; have yf := (hF2).free
  simp only [List.getElem?_cons_zero, List.getElem?_cons_succ] at y0 y1 y2
  have z0 := (hT2).cell 0; have z1 := (hT2).cell 1; have z2 := (hT2).cell 2; have zf := (hT2).free
  simp only [List.getElem?_cons_zero, List.getElem?_cons_succ] at z0 z1 z2
  go_wp2_with fail
  refine ((ofTwo f t _ _ (Box.new rfl)).eq (v' := .tuple #[.agg #[.int .i64 bzero.lo.x, .int .i64 bzero.lo.y, .int .i64 bzero.lo.z, .int .i64 bzero.hi.x, .int .i64 bzero.hi.y, .int .i64 bzero.hi.z], .int .i64 7]) (by rw [E2.out])).mono ?_
  rintro e w3 ⟨rfl, hS⟩
  have hW3 := (hW2.alloc hW2.size _).trans (hS.mono (by have := hW2.size; simp; omega))
  clear hS
  go_wp2_with fail
  refine (awakeC _).mono ?_
  rintro e w4 ⟨rfl, hS⟩
  have hW4 := (hW3.alloc hW3.size _).trans (hS.mono (by have := hW3.size; simp; omega))
  go_wp2
  exact bodyPost_ret (v := .bool true) (by simp [results, Try.results10, go_sem]) rfl ⟨rfl, hW4⟩

set_option maxRecDepth 100000 in
set_option maxHeartbeats 2000000 in
theorem ways_bad (a : Bd) (f t : Pt) (r : Int) (w : World) (hf : f.ok) (ht : t.ok) (ha : ¬ a.ok) : RetB Try.prog 10 #[.agg #[.int .i64 a.lo.x, .int .i64 a.lo.y, .int .i64 a.lo.z, .int .i64 a.hi.x, .int .i64 a.hi.y, .int .i64 a.hi.z], .agg #[.int .i64 f.x, .int .i64 f.y, .int .i64 f.z], .agg #[.int .i64 t.x, .int .i64 t.y, .int .i64 t.z], .int .i64 r] w (.bool true) := by
  have E0 := Lib.hid (show hitS a f t = false from hit_false fun h => ha h.1)
  have E1 := Lib.hid (hit_rev a f t)
  have E2 := Lib.hid (ofS_ends hf ht)
  have HAN := Lib.hid ha
  clear hf ht ha
  generalize hH : false = HH at E0
  have HHE := Lib.hid hH.symm
  clear hH
  generalize ends f t = own at *
  unfold RetB
  go_enter Try.func10, Try.ntmps10
  go_wp2_with fail
  refine ((hitC a f t _).eq (v' := .bool HH) (by rw [E0.out])).mono ?_
  rintro e w1 ⟨rfl, hS⟩
  have hA : Box w1 w.heap.size [.int .i64 a.lo.x, .int .i64 a.lo.y, .int .i64 a.lo.z, .int .i64 a.hi.x, .int .i64 a.hi.y, .int .i64 a.hi.z] 26 := (((Box.new rfl).alloc _).alloc _).step hS
  have hF : Box w1 (w.heap.size + 1) [.int .i64 f.x, .int .i64 f.y, .int .i64 f.z] 24 := ((Box.new (by simp)).alloc _).step hS
  have hT : Box w1 (w.heap.size + 1 + 1) [.int .i64 t.x, .int .i64 t.y, .int .i64 t.z] 24 := (Box.new (by simp)).step hS
  have hW : Below w.heap.size w w1 := ((((Below.refl _ _).alloc (Nat.le_refl _) _).alloc (by simp) _).alloc (by simp; omega) _).trans (hS.mono (by simp; omega))
  clear hS
  have x0 := (hA).cell 0; have x1 := (hA).cell 1; have x2 := (hA).cell 2; have x3 := (hA).cell 3; have x4 := (hA).cell 4; have x5 := (hA).cell 5; have xf := (hA).free
  simp only [List.getElem?_cons_zero, List.getElem?_cons_succ] at x0 x1 x2 x3 x4 x5
  have y0 := (hF).cell 0; have y1 := (hF).cell 1; have y2 := (hF).cell 2; have yf := (hF).free
  simp only [List.getElem?_cons_zero, List.getElem?_cons_succ] at y0 y1 y2
  have z0 := (hT).cell 0; have z1 := (hT).cell 1; have z2 := (hT).cell 2; have zf := (hT).free
  simp only [List.getElem?_cons_zero, List.getElem?_cons_succ] at z0 z1 z2
  have l0 := hA.lt; have l1 := hF.lt; have l2 := hT.lt
  go_wp2_with fail
  refine ((hitC a t f _).eq (v' := .bool HH) (by rw [E1.out, E0.out])).mono ?_
  rintro e w2 ⟨rfl, hS⟩
  have hA2 := hA.step hS; have hF2 := hF.step hS; have hT2 := hT.step hS; have hW2 := hW.trans (hS.mono hW.size)
  clear hS
  clear x0 x1 x2 x3 x4 x5 xf
  clear y0 y1 y2 yf
  clear z0 z1 z2 zf
  clear hA hF hT hW l0 l1 l2
  have y0 := (hF2).cell 0; have y1 := (hF2).cell 1; have y2 := (hF2).cell 2; have yf := (hF2).free
  simp only [List.getElem?_cons_zero, List.getElem?_cons_succ] at y0 y1 y2
  have z0 := (hT2).cell 0; have z1 := (hT2).cell 1; have z2 := (hT2).cell 2; have zf := (hT2).free
  simp only [List.getElem?_cons_zero, List.getElem?_cons_succ] at z0 z1 z2
  go_wp2_with fail
  refine ((ofTwo f t _ _ (Box.new rfl)).eq (v' := .tuple #[.agg #[.int .i64 own.lo.x, .int .i64 own.lo.y, .int .i64 own.lo.z, .int .i64 own.hi.x, .int .i64 own.hi.y, .int .i64 own.hi.z], .int .i64 0]) (by rw [E2.out])).mono ?_
  rintro e w3 ⟨rfl, hS⟩
  have hA3 := (hA2.alloc _).step hS; have hF3 := (hF2.alloc _).step hS; have hT3 := (hT2.alloc _).step hS
  have hW3 := (hW2.alloc hW2.size _).trans (hS.mono (by have := hW2.size; simp; omega))
  clear hS hA2 hF2 hT2 hW2
  clear y0 y1 y2 yf
  clear z0 z1 z2 zf
  obtain rfl : HH = false := HHE.out
  have l0 := hA3.lt
  have hA4 := hA3.alloc (.cells #[.int .i64 own.lo.x, .int .i64 own.lo.y, .int .i64 own.lo.z, .int .i64 own.hi.x, .int .i64 own.hi.y, .int .i64 own.hi.z] 26)
  have l1 := hA4.lt
  have x0 := (hA4).cell 0; have x1 := (hA4).cell 1; have x2 := (hA4).cell 2; have x3 := (hA4).cell 3; have x4 := (hA4).cell 4; have x5 := (hA4).cell 5; have xf := (hA4).free
  simp only [List.getElem?_cons_zero, List.getElem?_cons_succ] at x0 x1 x2 x3 x4 x5
  go_wp2_with fail
  refine (bcheck_no a _ HAN.out).mono ?_
  rintro e w4 ⟨rfl, hS⟩
  have hW4 := (hW3.alloc hW3.size _).trans (hS.mono (by have := hW3.size; simp; omega))
  clear hS hA3 hA4 hF3 hT3 hW3
  clear x0 x1 x2 x3 x4 x5 xf
  go_wp2_with fail
  refine (awakeC _).mono ?_
  rintro e w5 ⟨rfl, hS⟩
  have hW5 := hW4.trans (hS.mono hW4.size)
  go_wp2
  exact bodyPost_ret (v := .bool true) (by simp [results, Try.results10, go_sem]) rfl ⟨rfl, hW5⟩

theorem hold_false {x y : Bool} (h : x = true → y = true) (hy : y = false) : x = false := by cases x <;> simp_all
set_option maxRecDepth 100000 in
set_option maxHeartbeats 4000000 in
theorem ways_ok (a : Bd) (f t : Pt) (r : Int) (w : World) (hf : f.ok) (ht : t.ok) (ha : a.ok) : RetB Try.prog 10 #[.agg #[.int .i64 a.lo.x, .int .i64 a.lo.y, .int .i64 a.lo.z, .int .i64 a.hi.x, .int .i64 a.hi.y, .int .i64 a.hi.z], .agg #[.int .i64 f.x, .int .i64 f.y, .int .i64 f.z], .agg #[.int .i64 t.x, .int .i64 t.y, .int .i64 t.z], .int .i64 r] w (.bool true) := by
  obtain ⟨HH, hHH⟩ : ∃ x, hitS a f t = x := ⟨_, rfl⟩
  have E0 := Lib.hid hHH
  have E1 := Lib.hid (hit_rev a f t)
  have E2 := Lib.hid (ofS_ends hf ht)
  have HAN := Lib.hid ha
  have K1 := Lib.hid (show holds a (⟨f, f⟩ : Bd) = true → HH = true from fun h => by rw [← hHH]; exact hit_begin ht h)
  have K2 := Lib.hid (show holds a (⟨t, t⟩ : Bd) = true → HH = true from fun h => by rw [← hHH]; exact hit_end hf h)
  have K3 := Lib.hid (show HH = true → meet a (ends f t) = true from fun h => hit_meet (hHH.trans h))
  have K4 := Lib.hid (show HH = true → hitS (grow a r) f t = true from fun h => hit_grow r (hHH.trans h))
  clear hf ht ha hHH
  generalize ends f t = own at *
  unfold RetB
  go_enter Try.func10, Try.ntmps10
  go_wp2_with fail
  refine ((hitC a f t _).eq (v' := .bool HH) (by rw [E0.out])).mono ?_
  rintro e w1 ⟨rfl, hS⟩
  have hA : Box w1 w.heap.size [.int .i64 a.lo.x, .int .i64 a.lo.y, .int .i64 a.lo.z, .int .i64 a.hi.x, .int .i64 a.hi.y, .int .i64 a.hi.z] 26 := (((Box.new rfl).alloc _).alloc _).step hS
  have hF : Box w1 (w.heap.size + 1) [.int .i64 f.x, .int .i64 f.y, .int .i64 f.z] 24 := ((Box.new (by simp)).alloc _).step hS
  have hT : Box w1 (w.heap.size + 1 + 1) [.int .i64 t.x, .int .i64 t.y, .int .i64 t.z] 24 := (Box.new (by simp)).step hS
  have hW : Below w.heap.size w w1 := ((((Below.refl _ _).alloc (Nat.le_refl _) _).alloc (by simp) _).alloc (by simp; omega) _).trans (hS.mono (by simp; omega))
  clear hS
  have x0 := (hA).cell 0; have x1 := (hA).cell 1; have x2 := (hA).cell 2; have x3 := (hA).cell 3; have x4 := (hA).cell 4; have x5 := (hA).cell 5; have xf := (hA).free
  simp only [List.getElem?_cons_zero, List.getElem?_cons_succ] at x0 x1 x2 x3 x4 x5
  have y0 := (hF).cell 0; have y1 := (hF).cell 1; have y2 := (hF).cell 2; have yf := (hF).free
  simp only [List.getElem?_cons_zero, List.getElem?_cons_succ] at y0 y1 y2
  have z0 := (hT).cell 0; have z1 := (hT).cell 1; have z2 := (hT).cell 2; have zf := (hT).free
  simp only [List.getElem?_cons_zero, List.getElem?_cons_succ] at z0 z1 z2
  have l0 := hA.lt; have l1 := hF.lt; have l2 := hT.lt
  go_wp2_with fail
  refine ((hitC a t f _).eq (v' := .bool HH) (by rw [E1.out, E0.out])).mono ?_
  rintro e w2 ⟨rfl, hS⟩
  have hA2 := hA.step hS; have hF2 := hF.step hS; have hT2 := hT.step hS; have hW2 := hW.trans (hS.mono hW.size)
  clear hS
  clear x0 x1 x2 x3 x4 x5 xf
  clear y0 y1 y2 yf
  clear z0 z1 z2 zf
  clear hA hF hT hW l0 l1 l2
  have y0 := (hF2).cell 0; have y1 := (hF2).cell 1; have y2 := (hF2).cell 2; have yf := (hF2).free
  simp only [List.getElem?_cons_zero, List.getElem?_cons_succ] at y0 y1 y2
  have z0 := (hT2).cell 0; have z1 := (hT2).cell 1; have z2 := (hT2).cell 2; have zf := (hT2).free
  simp only [List.getElem?_cons_zero, List.getElem?_cons_succ] at z0 z1 z2
  go_wp2_with fail
  refine ((ofTwo f t _ _ (Box.new rfl)).eq (v' := .tuple #[.agg #[.int .i64 own.lo.x, .int .i64 own.lo.y, .int .i64 own.lo.z, .int .i64 own.hi.x, .int .i64 own.hi.y, .int .i64 own.hi.z], .int .i64 0]) (by rw [E2.out])).mono ?_
  rintro e w3 ⟨rfl, hS⟩
  have hA3 := (hA2.alloc _).step hS; have hF3 := (hF2.alloc _).step hS; have hT3 := (hT2.alloc _).step hS
  have hW3 := (hW2.alloc hW2.size _).trans (hS.mono (by have := hW2.size; simp; omega))
  clear hS hA2 hF2 hT2 hW2
  clear y0 y1 y2 yf
  clear z0 z1 z2 zf
  have l0 := hA3.lt
  have hA4 := hA3.alloc (.cells #[.int .i64 own.lo.x, .int .i64 own.lo.y, .int .i64 own.lo.z, .int .i64 own.hi.x, .int .i64 own.hi.y, .int .i64 own.hi.z] 26)
  have l1 := hA4.lt
  have hO4 : Box (w3.alloc (.cells #[.int .i64 own.lo.x, .int .i64 own.lo.y, .int .i64 own.lo.z, .int .i64 own.hi.x, .int .i64 own.hi.y, .int .i64 own.hi.z] 26)) w3.heap.size [.int .i64 own.lo.x, .int .i64 own.lo.y, .int .i64 own.lo.z, .int .i64 own.hi.x, .int .i64 own.hi.y, .int .i64 own.hi.z] 26 := Box.new rfl
  have x0 := (hA4).cell 0; have x1 := (hA4).cell 1; have x2 := (hA4).cell 2; have x3 := (hA4).cell 3; have x4 := (hA4).cell 4; have x5 := (hA4).cell 5; have xf := (hA4).free
  simp only [List.getElem?_cons_zero, List.getElem?_cons_succ] at x0 x1 x2 x3 x4 x5
  go_wp2_with fail
  refine (bcheck_ok a _ HAN.out).mono ?_
  rintro e w4 ⟨rfl, hS⟩
  have hA := hA4.step hS; have hF := (hF3.alloc _).step hS; have hT := (hT3.alloc _).step hS; have hO := hO4.step hS
  have hW := (hW3.alloc hW3.size _).trans (hS.mono (by have := hW3.size; simp; omega))
  clear hS hA3 hA4 hF3 hT3 hW3 hO4 l0 l1
  generalize w3.heap.size = n3 at *
  clear x0 x1 x2 x3 x4 x5 xf
  have m0 := hA.lt; have m1 := hF.lt; have m2 := hT.lt; have m3 := hO.lt
  have x0 := (hA).cell 0; have x1 := (hA).cell 1; have x2 := (hA).cell 2; have x3 := (hA).cell 3; have x4 := (hA).cell 4; have x5 := (hA).cell 5; have xf := (hA).free
  simp only [List.getElem?_cons_zero, List.getElem?_cons_succ] at x0 x1 x2 x3 x4 x5
  have y0 := (hF).cell 0; have y1 := (hF).cell 1; have y2 := (hF).cell 2; have yf := (hF).free
  simp only [List.getElem?_cons_zero, List.getElem?_cons_succ] at y0 y1 y2
  have z0 := (hT).cell 0; have z1 := (hT).cell 1; have z2 := (hT).cell 2; have zf := (hT).free
  simp only [List.getElem?_cons_zero, List.getElem?_cons_succ] at z0 z1 z2
  have v0 := (hO).cell 0; have v1 := (hO).cell 1; have v2 := (hO).cell 2; have v3 := (hO).cell 3; have v4 := (hO).cell 4; have v5 := (hO).cell 5; have vf := (hO).free
  simp only [List.getElem?_cons_zero, List.getElem?_cons_succ] at v0 v1 v2 v3 v4 v5
  go_upto_region 7 with fail
  go_cut [12] (fun s12 wx => ∃ u, s12 = .bool u ∧ (u = true → HH = true) ∧ Box wx w.heap.size [.int .i64 a.lo.x, .int .i64 a.lo.y, .int .i64 a.lo.z, .int .i64 a.hi.x, .int .i64 a.hi.y, .int .i64 a.hi.z] 26 ∧ Box wx (w.heap.size + 1) [.int .i64 f.x, .int .i64 f.y, .int .i64 f.z] 24 ∧ Box wx (w.heap.size + 1 + 1) [.int .i64 t.x, .int .i64 t.y, .int .i64 t.z] 24 ∧ Box wx n3 [.int .i64 own.lo.x, .int .i64 own.lo.y, .int .i64 own.lo.z, .int .i64 own.hi.x, .int .i64 own.hi.y, .int .i64 own.hi.z] 26 ∧ Below w.heap.size w wx)
  case first => as_aux_lemma =>
    cases c1 : holds a (⟨f, f⟩ : Bd)
    · have C1 := Lib.hid c1
      clear c1
      refine wp_region_ph [(10, .free [])] (by kernel_rfl) (by kernel_rfl) ?_
      refine Ph.belowd ?_
      simp only [List.drop_succ_cons, List.drop_zero, List.take_succ_cons, List.take_zero, Nat.reduceSub, Nat.sub_zero]
      iterate 2 (refine SeqO.val (v := ?_) (by rfl) (by rfl) (fun w1 hS => ?_) ?_; rotate_left; (· obtain ⟨hc, hcf⟩ := bcell hS; go_simp; try with_reducible rfl); simp only [Act.put, List.setIfInBounds_toArray, List.set_cons_zero, List.set_cons_succ])
      refine SeqO.callv (by rfl) (by rfl) (by rfl) cf29 (by simp [Act.eval]) (fun w1 hS => singleC f w1) ?_
      simp only [Act.put, List.setIfInBounds_toArray, List.set_cons_zero, List.set_cons_succ]
      refine SeqO.callv (by rfl) (by rfl) (by rfl) cf23 (by simp [Act.eval]) (fun w1 hS => (holdsC a (⟨f, f⟩ : Bd) w1).eq (by rw [C1.out])) ?_
      simp only [Act.put, List.setIfInBounds_toArray, List.set_cons_zero, List.set_cons_succ]
      iterate 3 (refine SeqO.val (v := ?_) (by rfl) (by rfl) (fun w1 hS => ?_) ?_; rotate_left; (· obtain ⟨hc, hcf⟩ := bcell hS; go_simp; try with_reducible rfl); simp only [Act.put, List.setIfInBounds_toArray, List.set_cons_zero, List.set_cons_succ])
      refine SeqO.callv (by rfl) (by rfl) (by rfl) cf29 (by simp [Act.eval]) (fun w1 hS => singleC t w1) ?_
      simp only [Act.put, List.setIfInBounds_toArray, List.set_cons_zero, List.set_cons_succ]
      refine SeqO.callv (by rfl) (by rfl) (by rfl) cf23 (by simp [Act.eval]) (fun w1 hS => (holdsC a (⟨t, t⟩ : Bd) w1)) ?_
      simp only [Act.put, List.setIfInBounds_toArray, List.set_cons_zero, List.set_cons_succ]
      generalize hu : holds a (⟨t, t⟩ : Bd) = u at *
      have HU := Lib.hid hu
      clear hu
      repeat (first | (refine SeqO.skip (by rfl) (by rfl) ?_; simp only [Act.put, List.setIfInBounds_toArray, List.set_cons_zero, List.set_cons_succ])  | (refine SeqO.val (v := ?_) (by rfl) (by rfl) (fun w1 hS => ?_) ?_; rotate_left; (· obtain ⟨hc, hcf⟩ := bcell hS; go_simp; try with_reducible rfl); simp only [Act.put, List.setIfInBounds_toArray, List.set_cons_zero, List.set_cons_succ]))
      refine SeqO.nil0 fun w5 hS => ?_
      refine Ph.last ?_
      simp only [List.drop_succ_cons, List.drop_zero, List.take_succ_cons, List.take_zero, Nat.reduceSub, Nat.sub_zero]
      have hA2 := hA.step hS; have hF2 := hF.step hS; have hT2 := hT.step hS; have hO2 := hO.step hS; have hW2 := hW.trans (hS.mono hW.size)
      clear x0 x1 x2 x3 x4 x5 xf
      clear y0 y1 y2 yf
      clear z0 z1 z2 zf
      clear v0 v1 v2 v3 v4 v5 vf
      clear hS hA hF hT hO hW
      go_wp2_with fail
      go_meet
      exact ⟨u, rfl, K2.out, hA2, hF2, hT2, hO2, hW2⟩
    · have C1 := Lib.hid c1
      clear c1
      refine wp_region_ph [(10, .free [])] (by kernel_rfl) (by kernel_rfl) ?_
      refine Ph.belowd ?_
      simp only [List.drop_succ_cons, List.drop_zero, List.take_succ_cons, List.take_zero, Nat.reduceSub, Nat.sub_zero]
      iterate 2 (refine SeqO.val (v := ?_) (by rfl) (by rfl) (fun w1 hS => ?_) ?_; rotate_left; (· obtain ⟨hc, hcf⟩ := bcell hS; go_simp; try with_reducible rfl); simp only [Act.put, List.setIfInBounds_toArray, List.set_cons_zero, List.set_cons_succ])
      refine SeqO.callv (by rfl) (by rfl) (by rfl) cf29 (by simp [Act.eval]) (fun w1 hS => singleC f w1) ?_
      simp only [Act.put, List.setIfInBounds_toArray, List.set_cons_zero, List.set_cons_succ]
      refine SeqO.callv (by rfl) (by rfl) (by rfl) cf23 (by simp [Act.eval]) (fun w1 hS => (holdsC a (⟨f, f⟩ : Bd) w1).eq (by rw [C1.out])) ?_
      simp only [Act.put, List.setIfInBounds_toArray, List.set_cons_zero, List.set_cons_succ]
      repeat (first | (refine SeqO.skip (by rfl) (by rfl) ?_; simp only [Act.put, List.setIfInBounds_toArray, List.set_cons_zero, List.set_cons_succ])  | (refine SeqO.val (v := ?_) (by rfl) (by rfl) (fun w1 hS => ?_) ?_; rotate_left; (· obtain ⟨hc, hcf⟩ := bcell hS; go_simp; try with_reducible rfl); simp only [Act.put, List.setIfInBounds_toArray, List.set_cons_zero, List.set_cons_succ]))
      refine SeqO.nil0 fun w5 hS => ?_
      refine Ph.last ?_
      simp only [List.drop_succ_cons, List.drop_zero, List.take_succ_cons, List.take_zero, Nat.reduceSub, Nat.sub_zero]
      have hA2 := hA.step hS; have hF2 := hF.step hS; have hT2 := hT.step hS; have hO2 := hO.step hS; have hW2 := hW.trans (hS.mono hW.size)
      clear x0 x1 x2 x3 x4 x5 xf
      clear y0 y1 y2 yf
      clear z0 z1 z2 zf
      clear v0 v1 v2 v3 v4 v5 vf
      clear hS hA hF hT hO hW
      go_wp2_with fail
      go_meet
      exact ⟨true, rfl, fun _ => K1.out C1.out, hA2, hF2, hT2, hO2, hW2⟩
  case rest => as_aux_lemma =>
    obtain ⟨u, rfl, hu, hA, hF, hT, hO, hW⟩ := hcut
    have HU := Lib.hid hu
    clear hu
    clear x0 x1 x2 x3 x4 x5 xf
    clear y0 y1 y2 yf
    clear z0 z1 z2 zf
    clear v0 v1 v2 v3 v4 v5 vf
    clear m0 m1 m2 m3
    have m0 := hA.lt; have m1 := hF.lt; have m2 := hT.lt; have m3 := hO.lt
    have x0 := (hA).cell 0; have x1 := (hA).cell 1; have x2 := (hA).cell 2; have x3 := (hA).cell 3; have x4 := (hA).cell 4; have x5 := (hA).cell 5; have xf := (hA).free
    simp only [List.getElem?_cons_zero, List.getElem?_cons_succ] at x0 x1 x2 x3 x4 x5
    have y0 := (hF).cell 0; have y1 := (hF).cell 1; have y2 := (hF).cell 2; have yf := (hF).free
    simp only [List.getElem?_cons_zero, List.getElem?_cons_succ] at y0 y1 y2
    have z0 := (hT).cell 0; have z1 := (hT).cell 1; have z2 := (hT).cell 2; have zf := (hT).free
    simp only [List.getElem?_cons_zero, List.getElem?_cons_succ] at z0 z1 z2
    have v0 := (hO).cell 0; have v1 := (hO).cell 1; have v2 := (hO).cell 2; have v3 := (hO).cell 3; have v4 := (hO).cell 4; have v5 := (hO).cell 5; have vf := (hO).free
    simp only [List.getElem?_cons_zero, List.getElem?_cons_succ] at v0 v1 v2 v3 v4 v5
    go_wp2_with fail
    cases HH
    · obtain rfl : u = false := hold_false HU.out rfl
      refine wp_region_ph [(25, .free [])] (by kernel_rfl) (by kernel_rfl) ?_
      refine Ph.belowd ?_
      simp only [List.drop_succ_cons, List.drop_zero, List.take_succ_cons, List.take_zero, Nat.reduceSub, Nat.sub_zero]
      repeat (first | (refine SeqO.skip (by rfl) (by rfl) ?_; simp only [Act.put, List.setIfInBounds_toArray, List.set_cons_zero, List.set_cons_succ])  | (refine SeqO.val (v := ?_) (by rfl) (by rfl) (fun w1 hS => ?_) ?_; rotate_left; (· obtain ⟨hc, hcf⟩ := bcell hS; go_simp; try with_reducible rfl); simp only [Act.put, List.setIfInBounds_toArray, List.set_cons_zero, List.set_cons_succ]))
      refine SeqO.callv (by rfl) (by rfl) (by rfl) cf11 (by simp [Act.eval]) (fun w1 hS => awakeC w1) ?_
      simp only [Act.put, List.setIfInBounds_toArray, List.set_cons_zero, List.set_cons_succ]
      repeat (first | (refine SeqO.skip (by rfl) (by rfl) ?_; simp only [Act.put, List.setIfInBounds_toArray, List.set_cons_zero, List.set_cons_succ])  | (refine SeqO.val (v := ?_) (by rfl) (by rfl) (fun w1 hS => ?_) ?_; rotate_left; (· obtain ⟨hc, hcf⟩ := bcell hS; go_simp; try with_reducible rfl); simp only [Act.put, List.setIfInBounds_toArray, List.set_cons_zero, List.set_cons_succ]))
      refine SeqO.nil0 fun w8 hS => ?_
      refine Ph.last ?_
      simp only [List.drop_succ_cons, List.drop_zero, List.take_succ_cons, List.take_zero, Nat.reduceSub, Nat.sub_zero]
      go_wp2
      exact bodyPost_ret (v := .bool true) (by simp [results, Try.results10, go_sem]) rfl ⟨rfl, hW.trans (hS.mono hW.size)⟩
    · cases u
      all_goals
        refine wp_region_ph [(25, .free [])] (by kernel_rfl) (by kernel_rfl) ?_
        refine Ph.belowd ?_
        simp only [List.drop_succ_cons, List.drop_zero, List.take_succ_cons, List.take_zero, Nat.reduceSub, Nat.sub_zero]
        repeat (first | (refine SeqO.skip (by rfl) (by rfl) ?_; simp only [Act.put, List.setIfInBounds_toArray, List.set_cons_zero, List.set_cons_succ])  | (refine SeqO.val (v := ?_) (by rfl) (by rfl) (fun w1 hS => ?_) ?_; rotate_left; (· obtain ⟨hc, hcf⟩ := bcell hS; go_simp; try with_reducible rfl); simp only [Act.put, List.setIfInBounds_toArray, List.set_cons_zero, List.set_cons_succ]))
        refine SeqO.callv (by rfl) (by rfl) (by rfl) cf24 (by simp [Act.eval]) (fun w1 hS => (meetC a own w1).eq (by rw [K3.out rfl])) ?_
        simp only [Act.put, List.setIfInBounds_toArray, List.set_cons_zero, List.set_cons_succ]
        repeat (first | (refine SeqO.skip (by rfl) (by rfl) ?_; simp only [Act.put, List.setIfInBounds_toArray, List.set_cons_zero, List.set_cons_succ])  | (refine SeqO.val (v := ?_) (by rfl) (by rfl) (fun w1 hS => ?_) ?_; rotate_left; (· obtain ⟨hc, hcf⟩ := bcell hS; go_simp; try with_reducible rfl); simp only [Act.put, List.setIfInBounds_toArray, List.set_cons_zero, List.set_cons_succ]))
        refine SeqO.callv (by rfl) (by rfl) (by rfl) cf20 (by simp [Act.eval]) (fun w1 hS => growC a r w1) ?_
        simp only [Act.put, List.setIfInBounds_toArray, List.set_cons_zero, List.set_cons_succ]
        repeat (first | (refine SeqO.skip (by rfl) (by rfl) ?_; simp only [Act.put, List.setIfInBounds_toArray, List.set_cons_zero, List.set_cons_succ])  | (refine SeqO.val (v := ?_) (by rfl) (by rfl) (fun w1 hS => ?_) ?_; rotate_left; (· obtain ⟨hc, hcf⟩ := bcell hS; go_simp; try with_reducible rfl); simp only [Act.put, List.setIfInBounds_toArray, List.set_cons_zero, List.set_cons_succ]))
        refine SeqO.callv (by rfl) (by rfl) (by rfl) cf16 (by simp [Act.eval]) (fun w1 hS => (hitC (grow a r) f t w1).eq (by rw [K4.out rfl])) ?_
        simp only [Act.put, List.setIfInBounds_toArray, List.set_cons_zero, List.set_cons_succ]
        repeat (first | (refine SeqO.skip (by rfl) (by rfl) ?_; simp only [Act.put, List.setIfInBounds_toArray, List.set_cons_zero, List.set_cons_succ])  | (refine SeqO.val (v := ?_) (by rfl) (by rfl) (fun w1 hS => ?_) ?_; rotate_left; (· obtain ⟨hc, hcf⟩ := bcell hS; go_simp; try with_reducible rfl); simp only [Act.put, List.setIfInBounds_toArray, List.set_cons_zero, List.set_cons_succ]))
        refine SeqO.callv (by rfl) (by rfl) (by rfl) cf11 (by simp [Act.eval]) (fun w1 hS => awakeC w1) ?_
        simp only [Act.put, List.setIfInBounds_toArray, List.set_cons_zero, List.set_cons_succ]
        repeat (first | (refine SeqO.skip (by rfl) (by rfl) ?_; simp only [Act.put, List.setIfInBounds_toArray, List.set_cons_zero, List.set_cons_succ])  | (refine SeqO.val (v := ?_) (by rfl) (by rfl) (fun w1 hS => ?_) ?_; rotate_left; (· obtain ⟨hc, hcf⟩ := bcell hS; go_simp; try with_reducible rfl); simp only [Act.put, List.setIfInBounds_toArray, List.set_cons_zero, List.set_cons_succ]))
        refine SeqO.nil0 fun w8 hS => ?_
        refine Ph.last ?_
        simp only [List.drop_succ_cons, List.drop_zero, List.take_succ_cons, List.take_zero, Nat.reduceSub, Nat.sub_zero]
        go_wp2
        exact bodyPost_ret (v := .bool true) (by simp [results, Try.results10, go_sem]) rfl ⟨rfl, hW.trans (hS.mono hW.size)⟩
theorem law (a : Bd) (f t : Pt) (r : Int) (w : World) : RetB Try.prog 10 #[.agg #[.int .i64 a.lo.x, .int .i64 a.lo.y, .int .i64 a.lo.z, .int .i64 a.hi.x, .int .i64 a.hi.y, .int .i64 a.hi.z], .agg #[.int .i64 f.x, .int .i64 f.y, .int .i64 f.z], .agg #[.int .i64 t.x, .int .i64 t.y, .int .i64 t.z], .int .i64 r] w (.bool true) := by
  by_cases h : f.ok ∧ t.ok
  · by_cases ha : a.ok
    · exact ways_ok a f t r w h.1 h.2 ha
    · exact ways_bad a f t r w h.1 h.2 ha
  · exact ways_no a f t r w h
end LWays
end Go.Proofs.Ytegmfmonkaimcaa
