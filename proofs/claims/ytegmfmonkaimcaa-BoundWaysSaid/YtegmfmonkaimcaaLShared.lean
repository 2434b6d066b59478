/- Bounds that meet share a point: the law's walk. No condition. -/
import Derived.Test.YtegmfmonkaimcaaLaw1
import Derived.Test.YtegmfmonkaimcaaRegC
import Derived.Test.YtegmfmonkaimcaaRef2
import Derived.Test.YtegmfmonkaimcaaAwk
namespace Go.Proofs.Ytegmfmonkaimcaa
set_option linter.unusedVariables false
set_option linter.unusedSimpArgs false
open Go.RowKit Go.NP
theorem cf28 (args : Array Value) (w1 : World) : (callFunc 28 args).run Try.prog w1 = .ok (.enter 28 args) w1 := enters Try.func28 (by kernel_rfl) (by kernel_rfl) args w1
theorem cf29 (args : Array Value) (w1 : World) : (callFunc 29 args).run Try.prog w1 = .ok (.enter 29 args) w1 := enters Try.func29 (by kernel_rfl) (by kernel_rfl) args w1
theorem cf11 (args : Array Value) (w1 : World) : (callFunc 11 args).run Try.prog w1 = .ok (.enter 11 args) w1 := enters Try.func11 (by kernel_rfl) (by kernel_rfl) args w1
attribute [-go_sem] run_min_int2 run_max_int2
attribute [local go_sem] run_min2 run_max2
set_option maxHeartbeats 400000 in
theorem broughtC (n l h : Int) (w : World) : RetB Try.prog 28 #[.int .i64 n, .int .i64 l, .int .i64 h] w (.int .i64 (max l (min n h))) := by
  unfold RetB
  go_enter Try.func28, Try.ntmps28
  go_wp2
  exact bodyPost_ret (v := .int .i64 (max l (min n h))) (by simp [results, Try.results28, go_sem]) rfl ⟨rfl, Below.refl _ _⟩
set_option maxHeartbeats 1000000 in
theorem single6 (x y z : Int) (w : World) : RetB Try.prog 29 #[.agg #[.int .i64 x, .int .i64 y, .int .i64 z]] w (.agg #[.int .i64 x, .int .i64 y, .int .i64 z, .int .i64 x, .int .i64 y, .int .i64 z]) := by
  unfold RetB
  go_enter Try.func29, Try.ntmps29
  go_wp2
  refine bodyPost_ret (v := .agg #[.int .i64 x, .int .i64 y, .int .i64 z, .int .i64 x, .int .i64 y, .int .i64 z]) (by simp [results, Try.results29, go_sem]) rfl ⟨rfl, ?_⟩
  exact ((Below.refl _ _).alloc (Nat.le_refl _) _).alloc (by simp) _
theorem singleC (p : Pt) (w : World) : RetB Try.prog 29 #[.agg #[.int .i64 p.x, .int .i64 p.y, .int .i64 p.z]] w (.agg #[.int .i64 (⟨p, p⟩ : Bd).lo.x, .int .i64 (⟨p, p⟩ : Bd).lo.y, .int .i64 (⟨p, p⟩ : Bd).lo.z, .int .i64 (⟨p, p⟩ : Bd).hi.x, .int .i64 (⟨p, p⟩ : Bd).hi.y, .int .i64 (⟨p, p⟩ : Bd).hi.z]) := single6 p.x p.y p.z w
def bro (a b : Bd) : Pt := ⟨max b.lo.x (min a.lo.x b.hi.x), max b.lo.y (min a.lo.y b.hi.y), max b.lo.z (min a.lo.z b.hi.z)⟩
theorem meet_iff {a b : Bd} : meet a b = true ↔ a.ok ∧ b.ok ∧ (pmax a.lo b.lo).le (pmin a.hi b.hi) := by unfold meet; simp
theorem bro_ok {a b : Bd} (ha : a.ok) (hb : b.ok) : (⟨bro a b, bro a b⟩ : Bd).ok := by
  obtain ⟨⟨a1, a2, a3⟩, ⟨a4, a5, a6⟩, a7, a8, a9⟩ := ha
  obtain ⟨⟨b1, b2, b3⟩, ⟨b4, b5, b6⟩, b7, b8, b9⟩ := hb
  exact ⟨⟨okN_max b1 (okN_min a1 b4), okN_max b2 (okN_min a2 b5), okN_max b3 (okN_min a3 b6)⟩, ⟨okN_max b1 (okN_min a1 b4), okN_max b2 (okN_min a2 b5), okN_max b3 (okN_min a3 b6)⟩, le_refl' _⟩
theorem shared_eq {a b : Bd} (ha : a.ok) (hb : b.ok) : meet a b = (holds a ⟨bro a b, bro a b⟩ && holds b ⟨bro a b, bro a b⟩) := by
  have hp := bro_ok ha hb
  rw [Bool.eq_iff_iff, Bool.and_eq_true, holds_iff, holds_iff, meet_iff]
  obtain ⟨_, _, h1⟩ := id ha
  obtain ⟨_, _, h2⟩ := id hb
  unfold Pt.le at h1 h2
  unfold Pt.le pmax pmin bro
  simp only
  constructor
  · rintro ⟨_, _, h3⟩
    refine ⟨⟨ha, hp, ?_, ?_⟩, hb, hp, ?_, ?_⟩ <;> omega
  · rintro ⟨⟨_, _, h3, h4⟩, _, _, h5, h6⟩
    refine ⟨ha, hb, ?_⟩
    omega
theorem meet_comm (a b : Bd) : meet b a = meet a b := by
  rw [Bool.eq_iff_iff, meet_iff, meet_iff, pmax_comm, show pmin b.hi a.hi = pmin a.hi b.hi from pmin_comm _ _]
  constructor
  · rintro ⟨h1, h2, h3⟩; exact ⟨h2, h1, h3⟩
  · rintro ⟨h1, h2, h3⟩; exact ⟨h2, h1, h3⟩
theorem meet_self {a : Bd} (ha : a.ok) : meet a a = true := by
  rw [meet_iff]
  obtain ⟨_, _, h1⟩ := id ha
  refine ⟨ha, ha, ?_⟩
  unfold Pt.le at *
  unfold pmax pmin
  simp only
  omega

set_option maxRecDepth 100000 in
set_option maxHeartbeats 2000000 in
theorem shared_no1 (a b : Bd) (w : World) (ha : ¬ a.ok) : RetB Try.prog 9 #[.agg #[.int .i64 a.lo.x, .int .i64 a.lo.y, .int .i64 a.lo.z, .int .i64 a.hi.x, .int .i64 a.hi.y, .int .i64 a.hi.z], .agg #[.int .i64 b.lo.x, .int .i64 b.lo.y, .int .i64 b.lo.z, .int .i64 b.hi.x, .int .i64 b.hi.y, .int .i64 b.hi.z]] w (.bool true) := by
  have hm := Lib.hid (show meet a b = false from decide_eq_false fun h => ha h.1)
  unfold RetB
  go_enter Try.func9, Try.ntmps9
  go_wp2_with fail
  refine (bcheck_no a _ ha).mono ?_
  rintro e w1 ⟨rfl, hS⟩
  have hA : Box w1 w.heap.size [.int .i64 a.lo.x, .int .i64 a.lo.y, .int .i64 a.lo.z, .int .i64 a.hi.x, .int .i64 a.hi.y, .int .i64 a.hi.z] 26 := ((Box.new rfl).alloc _).step hS
  have hB : Box w1 (w.heap.size + 1) [.int .i64 b.lo.x, .int .i64 b.lo.y, .int .i64 b.lo.z, .int .i64 b.hi.x, .int .i64 b.hi.y, .int .i64 b.hi.z] 26 := (Box.new (by simp)).step hS
  have hW : Below w.heap.size w w1 := (((Below.refl _ _).alloc (Nat.le_refl _) _).alloc (by simp) _).trans (hS.mono (by simp; omega))
  clear hS
  have y0 := (hB).cell 0; have y1 := (hB).cell 1; have y2 := (hB).cell 2; have y3 := (hB).cell 3; have y4 := (hB).cell 4; have y5 := (hB).cell 5; have yf := (hB).free
  simp only [List.getElem?_cons_zero, List.getElem?_cons_succ] at y0 y1 y2 y3 y4 y5
  have x0 := (hA).cell 0; have x1 := (hA).cell 1; have x2 := (hA).cell 2; have x3 := (hA).cell 3; have x4 := (hA).cell 4; have x5 := (hA).cell 5; have xf := (hA).free
  simp only [List.getElem?_cons_zero, List.getElem?_cons_succ] at x0 x1 x2 x3 x4 x5
  go_wp2_with fail
  refine ((meetC a b _).eq (v' := .bool false) (by rw [hm.out])).mono ?_
  rintro e w3 ⟨rfl, hS⟩
  have hW := hW.trans (hS.mono hW.size)
  go_wp2_with fail
  refine (awakeC _).mono ?_
  rintro e w4 ⟨rfl, hS⟩
  have hW := hW.trans (hS.mono hW.size)
  go_wp2
  exact bodyPost_ret (v := .bool true) (by simp [results, Try.results9, go_sem]) rfl ⟨rfl, hW⟩
set_option maxRecDepth 100000 in
set_option maxHeartbeats 2000000 in
theorem shared_no2 (a b : Bd) (w : World) (ha : a.ok) (hb : ¬ b.ok) : RetB Try.prog 9 #[.agg #[.int .i64 a.lo.x, .int .i64 a.lo.y, .int .i64 a.lo.z, .int .i64 a.hi.x, .int .i64 a.hi.y, .int .i64 a.hi.z], .agg #[.int .i64 b.lo.x, .int .i64 b.lo.y, .int .i64 b.lo.z, .int .i64 b.hi.x, .int .i64 b.hi.y, .int .i64 b.hi.z]] w (.bool true) := by
  have hm := Lib.hid (show meet a b = false from decide_eq_false fun h => hb h.2.1)
  unfold RetB
  go_enter Try.func9, Try.ntmps9
  go_wp2_with fail
  refine (bcheck_ok a _ ha).mono ?_
  rintro e w1 ⟨rfl, hS⟩
  have hA : Box w1 w.heap.size [.int .i64 a.lo.x, .int .i64 a.lo.y, .int .i64 a.lo.z, .int .i64 a.hi.x, .int .i64 a.hi.y, .int .i64 a.hi.z] 26 := ((Box.new rfl).alloc _).step hS
  have hB : Box w1 (w.heap.size + 1) [.int .i64 b.lo.x, .int .i64 b.lo.y, .int .i64 b.lo.z, .int .i64 b.hi.x, .int .i64 b.hi.y, .int .i64 b.hi.z] 26 := (Box.new (by simp)).step hS
  have hW : Below w.heap.size w w1 := (((Below.refl _ _).alloc (Nat.le_refl _) _).alloc (by simp) _).trans (hS.mono (by simp; omega))
  clear hS
  have y0 := (hB).cell 0; have y1 := (hB).cell 1; have y2 := (hB).cell 2; have y3 := (hB).cell 3; have y4 := (hB).cell 4; have y5 := (hB).cell 5; have yf := (hB).free
  simp only [List.getElem?_cons_zero, List.getElem?_cons_succ] at y0 y1 y2 y3 y4 y5
  go_wp2_with fail
  refine (bcheck_no b _ hb).mono ?_
  rintro e w2 ⟨rfl, hS⟩
  have hA := hA.step hS; have hB := hB.step hS
  have hW := hW.trans (hS.mono hW.size)
  clear y0 y1 y2 y3 y4 y5 yf
  clear hS
  have y0 := (hB).cell 0; have y1 := (hB).cell 1; have y2 := (hB).cell 2; have y3 := (hB).cell 3; have y4 := (hB).cell 4; have y5 := (hB).cell 5; have yf := (hB).free
  simp only [List.getElem?_cons_zero, List.getElem?_cons_succ] at y0 y1 y2 y3 y4 y5
  have x0 := (hA).cell 0; have x1 := (hA).cell 1; have x2 := (hA).cell 2; have x3 := (hA).cell 3; have x4 := (hA).cell 4; have x5 := (hA).cell 5; have xf := (hA).free
  simp only [List.getElem?_cons_zero, List.getElem?_cons_succ] at x0 x1 x2 x3 x4 x5
  go_wp2_with fail
  refine ((meetC a b _).eq (v' := .bool false) (by rw [hm.out])).mono ?_
  rintro e w3 ⟨rfl, hS⟩
  have hW := hW.trans (hS.mono hW.size)
  go_wp2_with fail
  refine (awakeC _).mono ?_
  rintro e w4 ⟨rfl, hS⟩
  have hW := hW.trans (hS.mono hW.size)
  go_wp2
  exact bodyPost_ret (v := .bool true) (by simp [results, Try.results9, go_sem]) rfl ⟨rfl, hW⟩
set_option maxRecDepth 100000 in
set_option maxHeartbeats 4000000 in
theorem shared_ok (a b : Bd) (w : World) (ha : a.ok) (hb : b.ok) : RetB Try.prog 9 #[.agg #[.int .i64 a.lo.x, .int .i64 a.lo.y, .int .i64 a.lo.z, .int .i64 a.hi.x, .int .i64 a.hi.y, .int .i64 a.hi.z], .agg #[.int .i64 b.lo.x, .int .i64 b.lo.y, .int .i64 b.lo.z, .int .i64 b.hi.x, .int .i64 b.hi.y, .int .i64 b.hi.z]] w (.bool true) := by
  have F1 := Lib.hid (shared_eq ha hb)
  have F2 := Lib.hid (meet_comm a b)
  have F3 := Lib.hid (meet_self ha)
  unfold RetB
  go_enter Try.func9, Try.ntmps9
  go_wp2_with fail
  refine (bcheck_ok a _ ha).mono ?_
  rintro e w1 ⟨rfl, hS⟩
  have hA : Box w1 w.heap.size [.int .i64 a.lo.x, .int .i64 a.lo.y, .int .i64 a.lo.z, .int .i64 a.hi.x, .int .i64 a.hi.y, .int .i64 a.hi.z] 26 := ((Box.new rfl).alloc _).step hS
  have hB : Box w1 (w.heap.size + 1) [.int .i64 b.lo.x, .int .i64 b.lo.y, .int .i64 b.lo.z, .int .i64 b.hi.x, .int .i64 b.hi.y, .int .i64 b.hi.z] 26 := (Box.new (by simp)).step hS
  have hW : Below w.heap.size w w1 := (((Below.refl _ _).alloc (Nat.le_refl _) _).alloc (by simp) _).trans (hS.mono (by simp; omega))
  clear hS
  have y0 := (hB).cell 0; have y1 := (hB).cell 1; have y2 := (hB).cell 2; have y3 := (hB).cell 3; have y4 := (hB).cell 4; have y5 := (hB).cell 5; have yf := (hB).free
  simp only [List.getElem?_cons_zero, List.getElem?_cons_succ] at y0 y1 y2 y3 y4 y5
  go_wp2_with fail
  refine (bcheck_ok b _ hb).mono ?_
  rintro e w2 ⟨rfl, hS⟩
  have hA2 := hA.step hS; have hB2 := hB.step hS
  have hW2 := hW.trans (hS.mono hW.size)
  clear y0 y1 y2 y3 y4 y5 yf
  clear hS hA hB hW
  have x0 := (hA2).cell 0; have x1 := (hA2).cell 1; have x2 := (hA2).cell 2; have x3 := (hA2).cell 3; have x4 := (hA2).cell 4; have x5 := (hA2).cell 5; have xf := (hA2).free
  simp only [List.getElem?_cons_zero, List.getElem?_cons_succ] at x0 x1 x2 x3 x4 x5
  have y0 := (hB2).cell 0; have y1 := (hB2).cell 1; have y2 := (hB2).cell 2; have y3 := (hB2).cell 3; have y4 := (hB2).cell 4; have y5 := (hB2).cell 5; have yf := (hB2).free
  simp only [List.getElem?_cons_zero, List.getElem?_cons_succ] at y0 y1 y2 y3 y4 y5
  have l0 := hA2.lt; have l1 := hB2.lt
  go_wp2
  refine wp_region_ph [(32, .free [31])] (by kernel_rfl) (by kernel_rfl) ?_
  refine Ph.maded [(31, [.int .i64 0, .int .i64 0, .int .i64 0], 24)] (by rfl) ?_
  simp only [List.drop_succ_cons, List.drop_zero, List.take_succ_cons, List.take_zero, Nat.reduceSub, Nat.sub_zero]
  iterate 9 (refine SeqO.val (v := ?_) (by rfl) (by rfl) (fun w1 hS => ?_) ?_; rotate_left; (· obtain ⟨hc, hcf⟩ := bcell hS; go_simp; try with_reducible rfl); simp only [Act.put, List.setIfInBounds_toArray, List.set_cons_zero, List.set_cons_succ])
  refine SeqO.callv (by rfl) (by rfl) (by rfl) cf28 (by simp [Act.eval]) (fun w1 hS => broughtC a.lo.x b.lo.x b.hi.x w1) ?_
  simp only [Act.put, List.setIfInBounds_toArray, List.set_cons_zero, List.set_cons_succ]
  iterate 9 (refine SeqO.val (v := ?_) (by rfl) (by rfl) (fun w1 hS => ?_) ?_; rotate_left; (· obtain ⟨hc, hcf⟩ := bcell hS; go_simp; try with_reducible rfl); simp only [Act.put, List.setIfInBounds_toArray, List.set_cons_zero, List.set_cons_succ])
  refine SeqO.callv (by rfl) (by rfl) (by rfl) cf28 (by simp [Act.eval]) (fun w1 hS => broughtC a.lo.y b.lo.y b.hi.y w1) ?_
  simp only [Act.put, List.setIfInBounds_toArray, List.set_cons_zero, List.set_cons_succ]
  iterate 9 (refine SeqO.val (v := ?_) (by rfl) (by rfl) (fun w1 hS => ?_) ?_; rotate_left; (· obtain ⟨hc, hcf⟩ := bcell hS; go_simp; try with_reducible rfl); simp only [Act.put, List.setIfInBounds_toArray, List.set_cons_zero, List.set_cons_succ])
  refine SeqO.callv (by rfl) (by rfl) (by rfl) cf28 (by simp [Act.eval]) (fun w1 hS => broughtC a.lo.z b.lo.z b.hi.z w1) ?_
  simp only [Act.put, List.setIfInBounds_toArray, List.set_cons_zero, List.set_cons_succ]
  iterate 1 (refine SeqO.val (v := ?_) (by rfl) (by rfl) (fun w1 hS => ?_) ?_; rotate_left; (· obtain ⟨hc, hcf⟩ := bcell hS; go_simp; try with_reducible rfl); simp only [Act.put, List.setIfInBounds_toArray, List.set_cons_zero, List.set_cons_succ])
  refine SeqO.alloc (cs := [.int .i64 0, .int .i64 0, .int .i64 0]) (Ty := 24) (by rfl) ⟨24, by simp⟩ (by rfl) (by simp) (by rfl) (fun w => by go_simp) ?_
  refine SeqO.nil fun L u w3 hL hA => ?_
  obtain ⟨g, hg, hge, hbx⟩ := hA.made (31, [.int .i64 0, .int .i64 0, .int .i64 0], 24) (by simp) (hL 31 (by omega))
  have hS := hA.below
  clear hA hL
  simp only [List.nil_append, List.cons_append, List.foldl_cons, List.foldl_nil, hg]
  refine Ph.last ?_
  simp only [List.drop_succ_cons, List.drop_zero, List.take_succ_cons, List.take_zero, Nat.reduceSub, Nat.sub_zero]
  clear hg
  have hA3 := hA2.step hS; have hB3 := hB2.step hS
  have hW3 := hW2.trans (hS.mono hW2.size)
  have hG : Box w3 g [.int .i64 0, .int .i64 0, .int .i64 0] 24 := hbx
  have hge : w2.heap.size ≤ g := hge
  have l2 := hW2.size
  clear x0 x1 x2 x3 x4 x5 xf
  clear y0 y1 y2 y3 y4 y5 yf
  clear hbx hS hA2 hB2 hW2
  have z0 := (hG).cell 0; have z1 := (hG).cell 1; have z2 := (hG).cell 2; have zf := (hG).free
  simp only [List.getElem?_cons_zero, List.getElem?_cons_succ] at z0 z1 z2
  refine wpList_store (w' := ((w3.setCell ⟨g, 0, none⟩ (.int .i64 (bro a b).x)).setCell ⟨g, 1, none⟩ (.int .i64 (bro a b).y)).setCell ⟨g, 2, none⟩ (.int .i64 (bro a b).z)) (by rfl) (by go_simp; rfl) ?_
  have hA4 := ((hA3.other (p := ⟨g, 0, none⟩) (by simp; omega) (.int .i64 (bro a b).x)).other (p := ⟨g, 1, none⟩) (by simp; omega) (.int .i64 (bro a b).y)).other (p := ⟨g, 2, none⟩) (by simp; omega) (.int .i64 (bro a b).z)
  have hB4 := ((hB3.other (p := ⟨g, 0, none⟩) (by simp; omega) (.int .i64 (bro a b).x)).other (p := ⟨g, 1, none⟩) (by simp; omega) (.int .i64 (bro a b).y)).other (p := ⟨g, 2, none⟩) (by simp; omega) (.int .i64 (bro a b).z)
  have hG4 := ((hG.set 0 (.int .i64 (bro a b).x)).set 1 (.int .i64 (bro a b).y)).set 2 (.int .i64 (bro a b).z)
  have hW4 := ((hW3.setCell (p := ⟨g, 0, none⟩) (by simp; omega) (.int .i64 (bro a b).x)).setCell (p := ⟨g, 1, none⟩) (by simp; omega) (.int .i64 (bro a b).y)).setCell (p := ⟨g, 2, none⟩) (by simp; omega) (.int .i64 (bro a b).z)
  revert hA4 hB4 hG4 hW4
  generalize ((w3.setCell ⟨g, 0, none⟩ (.int .i64 (bro a b).x)).setCell ⟨g, 1, none⟩ (.int .i64 (bro a b).y)).setCell ⟨g, 2, none⟩ (.int .i64 (bro a b).z) = w4
  intro hA hB hG hW
  have hG : Box w4 g [.int .i64 (bro a b).x, .int .i64 (bro a b).y, .int .i64 (bro a b).z] 24 := hG
  clear z0 z1 z2 zf
  clear hA3 hB3 hW3 hge l0 l1 l2
  have m0 := hA.lt; have m1 := hB.lt; have m2 := hG.lt
  have x0 := (hA).cell 0; have x1 := (hA).cell 1; have x2 := (hA).cell 2; have x3 := (hA).cell 3; have x4 := (hA).cell 4; have x5 := (hA).cell 5; have xf := (hA).free
  simp only [List.getElem?_cons_zero, List.getElem?_cons_succ] at x0 x1 x2 x3 x4 x5
  have y0 := (hB).cell 0; have y1 := (hB).cell 1; have y2 := (hB).cell 2; have y3 := (hB).cell 3; have y4 := (hB).cell 4; have y5 := (hB).cell 5; have yf := (hB).free
  simp only [List.getElem?_cons_zero, List.getElem?_cons_succ] at y0 y1 y2 y3 y4 y5
  have z0 := (hG).cell 0; have z1 := (hG).cell 1; have z2 := (hG).cell 2; have zf := (hG).free
  simp only [List.getElem?_cons_zero, List.getElem?_cons_succ] at z0 z1 z2
  go_wp2
  cases t1 : holds a ⟨bro a b, bro a b⟩
  · have FM := Lib.hid (show meet a b = false from by rw [F1.out, t1]; rfl)
    refine wp_region_ph [(9, .free [])] (by kernel_rfl) (by kernel_rfl) ?_
    refine Ph.belowd ?_
    simp only [List.drop_succ_cons, List.drop_zero, List.take_succ_cons, List.take_zero, Nat.reduceSub, Nat.sub_zero]
    iterate 2 (refine SeqO.val (v := ?_) (by rfl) (by rfl) (fun w1 hS => ?_) ?_; rotate_left; (· obtain ⟨hc, hcf⟩ := bcell hS; go_simp; try with_reducible rfl); simp only [Act.put, List.setIfInBounds_toArray, List.set_cons_zero, List.set_cons_succ])
    refine SeqO.callv (by rfl) (by rfl) (by rfl) cf29 (by simp [Act.eval]) (fun w1 hS => singleC (bro a b) w1) ?_
    simp only [Act.put, List.setIfInBounds_toArray, List.set_cons_zero, List.set_cons_succ]
    refine SeqO.callv (by rfl) (by rfl) (by rfl) cf23 (by simp [Act.eval]) (fun w1 hS => (holdsC a ⟨bro a b, bro a b⟩ w1).eq (by rw [t1])) ?_
    simp only [Act.put, List.setIfInBounds_toArray, List.set_cons_zero, List.set_cons_succ]
    iterate 1 (refine SeqO.val (v := ?_) (by rfl) (by rfl) (fun w1 hS => ?_) ?_; rotate_left; (· obtain ⟨hc, hcf⟩ := bcell hS; go_simp; try with_reducible rfl); simp only [Act.put, List.setIfInBounds_toArray, List.set_cons_zero, List.set_cons_succ])
    iterate 4 (refine SeqO.skip (by rfl) (by rfl) ?_; simp only [Act.put, List.setIfInBounds_toArray, List.set_cons_zero, List.set_cons_succ])
    refine SeqO.nil0 fun w5 hS => ?_
    have hA5 := hA.step hS; have hB5 := hB.step hS
    have hW5 := hW.trans (hS.mono hW.size)
    refine Ph.last ?_
    simp only [List.drop_succ_cons, List.drop_zero, List.take_succ_cons, List.take_zero, Nat.reduceSub, Nat.sub_zero]
    clear x0 x1 x2 x3 x4 x5 xf
    clear y0 y1 y2 y3 y4 y5 yf
    clear z0 z1 z2 zf
    clear hS hA hB hG hW
    have x0 := (hA5).cell 0; have x1 := (hA5).cell 1; have x2 := (hA5).cell 2; have x3 := (hA5).cell 3; have x4 := (hA5).cell 4; have x5 := (hA5).cell 5; have xf := (hA5).free
    simp only [List.getElem?_cons_zero, List.getElem?_cons_succ] at x0 x1 x2 x3 x4 x5
    have y0 := (hB5).cell 0; have y1 := (hB5).cell 1; have y2 := (hB5).cell 2; have y3 := (hB5).cell 3; have y4 := (hB5).cell 4; have y5 := (hB5).cell 5; have yf := (hB5).free
    simp only [List.getElem?_cons_zero, List.getElem?_cons_succ] at y0 y1 y2 y3 y4 y5
    go_wp2_with fail
    refine ((meetC a b _).eq (v' := .bool false) (by rw [FM.out])).mono ?_
    rintro e w6 ⟨rfl, hS⟩
    have hA6 := hA5.step hS; have hB6 := hB5.step hS
    have hW6 := hW5.trans (hS.mono hW5.size)
    clear x0 x1 x2 x3 x4 x5 xf
    clear y0 y1 y2 y3 y4 y5 yf
    clear hS hA5 hB5 hW5
    have x0 := (hA6).cell 0; have x1 := (hA6).cell 1; have x2 := (hA6).cell 2; have x3 := (hA6).cell 3; have x4 := (hA6).cell 4; have x5 := (hA6).cell 5; have xf := (hA6).free
    simp only [List.getElem?_cons_zero, List.getElem?_cons_succ] at x0 x1 x2 x3 x4 x5
    have y0 := (hB6).cell 0; have y1 := (hB6).cell 1; have y2 := (hB6).cell 2; have y3 := (hB6).cell 3; have y4 := (hB6).cell 4; have y5 := (hB6).cell 5; have yf := (hB6).free
    simp only [List.getElem?_cons_zero, List.getElem?_cons_succ] at y0 y1 y2 y3 y4 y5
    go_wp2_with fail
    refine ((meetC b a _).eq (v' := .bool false) (by rw [F2.out, FM.out])).mono ?_
    rintro e w7 ⟨rfl, hS⟩
    have hA7 := hA6.step hS
    have hW7 := hW6.trans (hS.mono hW6.size)
    clear x0 x1 x2 x3 x4 x5 xf
    clear y0 y1 y2 y3 y4 y5 yf
    clear hS hA6 hB6 hW6
    have x0 := (hA7).cell 0; have x1 := (hA7).cell 1; have x2 := (hA7).cell 2; have x3 := (hA7).cell 3; have x4 := (hA7).cell 4; have x5 := (hA7).cell 5; have xf := (hA7).free
    simp only [List.getElem?_cons_zero, List.getElem?_cons_succ] at x0 x1 x2 x3 x4 x5
    go_wp2_with fail
    refine ((meetC a a _).eq (v' := .bool true) (by rw [F3.out])).mono ?_
    rintro e w8 ⟨rfl, hS⟩
    have hW8 := hW7.trans (hS.mono hW7.size)
    go_wp2_with fail
    refine (awakeC _).mono ?_
    rintro e w9 ⟨rfl, hS⟩
    have hW9 := hW8.trans (hS.mono hW8.size)
    go_wp2
    exact bodyPost_ret (v := .bool true) (by simp [results, Try.results9, go_sem]) rfl ⟨rfl, hW9⟩
  · have FM := Lib.hid (show meet a b = holds b ⟨bro a b, bro a b⟩ from by rw [F1.out, t1]; rfl)
    generalize ht : holds b ⟨bro a b, bro a b⟩ = t at *
    have HT := Lib.hid ht
    clear ht
    refine wp_region_ph [(9, .free [])] (by kernel_rfl) (by kernel_rfl) ?_
    refine Ph.belowd ?_
    simp only [List.drop_succ_cons, List.drop_zero, List.take_succ_cons, List.take_zero, Nat.reduceSub, Nat.sub_zero]
    iterate 2 (refine SeqO.val (v := ?_) (by rfl) (by rfl) (fun w1 hS => ?_) ?_; rotate_left; (· obtain ⟨hc, hcf⟩ := bcell hS; go_simp; try with_reducible rfl); simp only [Act.put, List.setIfInBounds_toArray, List.set_cons_zero, List.set_cons_succ])
    refine SeqO.callv (by rfl) (by rfl) (by rfl) cf29 (by simp [Act.eval]) (fun w1 hS => singleC (bro a b) w1) ?_
    simp only [Act.put, List.setIfInBounds_toArray, List.set_cons_zero, List.set_cons_succ]
    refine SeqO.callv (by rfl) (by rfl) (by rfl) cf23 (by simp [Act.eval]) (fun w1 hS => (holdsC a ⟨bro a b, bro a b⟩ w1).eq (by rw [t1])) ?_
    simp only [Act.put, List.setIfInBounds_toArray, List.set_cons_zero, List.set_cons_succ]
    iterate 3 (refine SeqO.val (v := ?_) (by rfl) (by rfl) (fun w1 hS => ?_) ?_; rotate_left; (· obtain ⟨hc, hcf⟩ := bcell hS; go_simp; try with_reducible rfl); simp only [Act.put, List.setIfInBounds_toArray, List.set_cons_zero, List.set_cons_succ])
    refine SeqO.callv (by rfl) (by rfl) (by rfl) cf29 (by simp [Act.eval]) (fun w1 hS => singleC (bro a b) w1) ?_
    simp only [Act.put, List.setIfInBounds_toArray, List.set_cons_zero, List.set_cons_succ]
    refine SeqO.callv (by rfl) (by rfl) (by rfl) cf23 (by simp [Act.eval]) (fun w1 hS => (holdsC b ⟨bro a b, bro a b⟩ w1).eq (by rw [HT.out])) ?_
    simp only [Act.put, List.setIfInBounds_toArray, List.set_cons_zero, List.set_cons_succ]
    refine SeqO.nil0 fun w5 hS => ?_
    have hA5 := hA.step hS; have hB5 := hB.step hS
    have hW5 := hW.trans (hS.mono hW.size)
    refine Ph.last ?_
    simp only [List.drop_succ_cons, List.drop_zero, List.take_succ_cons, List.take_zero, Nat.reduceSub, Nat.sub_zero]
    clear x0 x1 x2 x3 x4 x5 xf
    clear y0 y1 y2 y3 y4 y5 yf
    clear z0 z1 z2 zf
    clear hS hA hB hG hW
    have x0 := (hA5).cell 0; have x1 := (hA5).cell 1; have x2 := (hA5).cell 2; have x3 := (hA5).cell 3; have x4 := (hA5).cell 4; have x5 := (hA5).cell 5; have xf := (hA5).free
    simp only [List.getElem?_cons_zero, List.getElem?_cons_succ] at x0 x1 x2 x3 x4 x5
    have y0 := (hB5).cell 0; have y1 := (hB5).cell 1; have y2 := (hB5).cell 2; have y3 := (hB5).cell 3; have y4 := (hB5).cell 4; have y5 := (hB5).cell 5; have yf := (hB5).free
    simp only [List.getElem?_cons_zero, List.getElem?_cons_succ] at y0 y1 y2 y3 y4 y5
    go_wp2_with fail
    refine ((meetC a b _).eq (v' := .bool t) (by rw [FM.out])).mono ?_
    rintro e w6 ⟨rfl, hS⟩
    have hA6 := hA5.step hS; have hB6 := hB5.step hS
    have hW6 := hW5.trans (hS.mono hW5.size)
    clear x0 x1 x2 x3 x4 x5 xf
    clear y0 y1 y2 y3 y4 y5 yf
    clear hS hA5 hB5 hW5
    have x0 := (hA6).cell 0; have x1 := (hA6).cell 1; have x2 := (hA6).cell 2; have x3 := (hA6).cell 3; have x4 := (hA6).cell 4; have x5 := (hA6).cell 5; have xf := (hA6).free
    simp only [List.getElem?_cons_zero, List.getElem?_cons_succ] at x0 x1 x2 x3 x4 x5
    have y0 := (hB6).cell 0; have y1 := (hB6).cell 1; have y2 := (hB6).cell 2; have y3 := (hB6).cell 3; have y4 := (hB6).cell 4; have y5 := (hB6).cell 5; have yf := (hB6).free
    simp only [List.getElem?_cons_zero, List.getElem?_cons_succ] at y0 y1 y2 y3 y4 y5
    go_wp2_with fail
    refine ((meetC b a _).eq (v' := .bool t) (by rw [F2.out, FM.out])).mono ?_
    rintro e w7 ⟨rfl, hS⟩
    have hA7 := hA6.step hS
    have hW7 := hW6.trans (hS.mono hW6.size)
    clear x0 x1 x2 x3 x4 x5 xf
    clear y0 y1 y2 y3 y4 y5 yf
    clear hS hA6 hB6 hW6
    have x0 := (hA7).cell 0; have x1 := (hA7).cell 1; have x2 := (hA7).cell 2; have x3 := (hA7).cell 3; have x4 := (hA7).cell 4; have x5 := (hA7).cell 5; have xf := (hA7).free
    simp only [List.getElem?_cons_zero, List.getElem?_cons_succ] at x0 x1 x2 x3 x4 x5
    go_wp2_with fail
    refine ((meetC a a _).eq (v' := .bool true) (by rw [F3.out])).mono ?_
    rintro e w8 ⟨rfl, hS⟩
    have hW8 := hW7.trans (hS.mono hW7.size)
    go_wp2_with fail
    refine (awakeC _).mono ?_
    rintro e w9 ⟨rfl, hS⟩
    have hW9 := hW8.trans (hS.mono hW8.size)
    go_wp2
    exact bodyPost_ret (v := .bool true) (by simp [results, Try.results9, go_sem]) rfl ⟨rfl, hW9⟩
theorem lawShared (a b : Bd) (w : World) : RetB Try.prog 9 #[.agg #[.int .i64 a.lo.x, .int .i64 a.lo.y, .int .i64 a.lo.z, .int .i64 a.hi.x, .int .i64 a.hi.y, .int .i64 a.hi.z], .agg #[.int .i64 b.lo.x, .int .i64 b.lo.y, .int .i64 b.lo.z, .int .i64 b.hi.x, .int .i64 b.hi.y, .int .i64 b.hi.z]] w (.bool true) := by
  by_cases ha : a.ok
  · by_cases hb : b.ok
    · exact shared_ok a b w ha hb
    · exact shared_no2 a b w ha hb
  · exact shared_no1 a b w ha
end Go.Proofs.Ytegmfmonkaimcaa
