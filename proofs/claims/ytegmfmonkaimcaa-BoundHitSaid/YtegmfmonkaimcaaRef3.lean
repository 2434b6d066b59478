/- The document's own answers on bounds: their walks, third part: Size, Holds, Meet. No condition. -/
import Derived.Test.YtegmfmonkaimcaaRef1
namespace Go.Proofs.Ytegmfmonkaimcaa
set_option linter.unusedVariables false
set_option linter.unusedSimpArgs false
open Go.RowKit Go.NP
set_option maxHeartbeats 1000000 in
theorem rsizeC (a : Bd) (w : World) : RetB Try.prog 27 #[.agg #[.int .i64 a.lo.x, .int .i64 a.lo.y, .int .i64 a.lo.z, .int .i64 a.hi.x, .int .i64 a.hi.y, .int .i64 a.hi.z]] w (.int .i64 (size a)) := by
  unfold RetB
  by_cases ha : a.ok
  · have hs := Lib.hid (show size a = a.hi.x - a.lo.x + (a.hi.y - a.lo.y) + (a.hi.z - a.lo.z) by unfold size; rw [if_pos ha]; omega)
    obtain ⟨⟨a1, a2, a3⟩, ⟨a4, a5, a6⟩, _⟩ := id ha
    obtain ⟨a1, b1⟩ := a1; obtain ⟨a2, b2⟩ := a2; obtain ⟨a3, b3⟩ := a3; obtain ⟨a4, b4⟩ := a4; obtain ⟨a5, b5⟩ := a5; obtain ⟨a6, b6⟩ := a6
    go_enter Try.func27, Try.ntmps27
    go_wp2_with fail
    refine (rbd_ok a _ ha).mono ?_
    rintro e w1 ⟨rfl, hS⟩
    have hA1 : Box w1 w.heap.size [.int .i64 a.lo.x, .int .i64 a.lo.y, .int .i64 a.lo.z, .int .i64 a.hi.x, .int .i64 a.hi.y, .int .i64 a.hi.z] 26 := (Box.new rfl).step hS
    have hW1 : Below w.heap.size w w1 := ((Below.refl _ _).alloc (Nat.le_refl _) _).trans (hS.mono (by simp))
    clear hS
    have c0 := (hA1).cell 0; have c1 := (hA1).cell 1; have c2 := (hA1).cell 2; have c3 := (hA1).cell 3; have c4 := (hA1).cell 4; have c5 := (hA1).cell 5; have cf := (hA1).free
    simp only [List.getElem?_cons_zero, List.getElem?_cons_succ] at c0 c1 c2 c3 c4 c5
    clear hA1
    go_wp2
    rw [hs.out]
    exact bodyPost_ret (v := .int .i64 (a.hi.x - a.lo.x + (a.hi.y - a.lo.y) + (a.hi.z - a.lo.z))) (by simp [results, Try.results27, go_sem]) rfl ⟨rfl, hW1⟩
  · have hs := Lib.hid (show size a = 0 from if_neg ha)
    go_enter Try.func27, Try.ntmps27
    go_wp2_with fail
    refine (rbd_no a _ ha).mono ?_
    rintro e w1 ⟨rfl, hS⟩
    have hA1 : Box w1 w.heap.size [.int .i64 a.lo.x, .int .i64 a.lo.y, .int .i64 a.lo.z, .int .i64 a.hi.x, .int .i64 a.hi.y, .int .i64 a.hi.z] 26 := (Box.new rfl).step hS
    have hW1 : Below w.heap.size w w1 := ((Below.refl _ _).alloc (Nat.le_refl _) _).trans (hS.mono (by simp))
    clear hS
    have c0 := (hA1).cell 0; have c1 := (hA1).cell 1; have c2 := (hA1).cell 2; have c3 := (hA1).cell 3; have c4 := (hA1).cell 4; have c5 := (hA1).cell 5; have cf := (hA1).free
    simp only [List.getElem?_cons_zero, List.getElem?_cons_succ] at c0 c1 c2 c3 c4 c5
    clear hA1
    go_wp2
    rw [hs.out]
    exact bodyPost_ret (v := .int .i64 0) (by simp [results, Try.results27, go_sem]) rfl ⟨rfl, hW1⟩
def inS (b : Bd) (p : Pt) : Bool := decide (b.lo.x ≤ p.x) && decide (p.x ≤ b.hi.x) && decide (b.lo.y ≤ p.y) && decide (p.y ≤ b.hi.y) && decide (b.lo.z ≤ p.z) && decide (p.z ≤ b.hi.z)
set_option maxHeartbeats 1000000 in
theorem rinC (b : Bd) (p : Pt) (w : World) : RetB Try.prog 37 #[.agg #[.int .i64 b.lo.x, .int .i64 b.lo.y, .int .i64 b.lo.z, .int .i64 b.hi.x, .int .i64 b.hi.y, .int .i64 b.hi.z], .agg #[.int .i64 p.x, .int .i64 p.y, .int .i64 p.z]] w (.bool (inS b p)) := by
  unfold RetB
  have hW : Below w.heap.size w ((w.alloc (.cells #[.int .i64 b.lo.x, .int .i64 b.lo.y, .int .i64 b.lo.z, .int .i64 b.hi.x, .int .i64 b.hi.y, .int .i64 b.hi.z] 26)).alloc (.cells #[.int .i64 p.x, .int .i64 p.y, .int .i64 p.z] 24)) := ((Below.refl _ _).alloc (Nat.le_refl _) _).alloc (by simp) _
  cases c1 : decide (b.lo.x ≤ p.x)
  · have hv := Lib.hid (show inS b p = false from by unfold inS; rw [c1]; simp)
    go_enter Try.func37, Try.ntmps37
    go_wp2
    rw [hv.out]
    exact bodyPost_ret (v := .bool false) (by simp [results, Try.results37, go_sem]) rfl ⟨rfl, hW⟩
  · skip
    cases c2 : decide (p.x ≤ b.hi.x)
    · have hv := Lib.hid (show inS b p = false from by unfold inS; rw [c1, c2]; simp)
      go_enter Try.func37, Try.ntmps37
      go_wp2
      rw [hv.out]
      exact bodyPost_ret (v := .bool false) (by simp [results, Try.results37, go_sem]) rfl ⟨rfl, hW⟩
    · skip
      cases c3 : decide (b.lo.y ≤ p.y)
      · have hv := Lib.hid (show inS b p = false from by unfold inS; rw [c1, c2, c3]; simp)
        go_enter Try.func37, Try.ntmps37
        go_wp2
        rw [hv.out]
        exact bodyPost_ret (v := .bool false) (by simp [results, Try.results37, go_sem]) rfl ⟨rfl, hW⟩
      · skip
        cases c4 : decide (p.y ≤ b.hi.y)
        · have hv := Lib.hid (show inS b p = false from by unfold inS; rw [c1, c2, c3, c4]; simp)
          go_enter Try.func37, Try.ntmps37
          go_wp2
          rw [hv.out]
          exact bodyPost_ret (v := .bool false) (by simp [results, Try.results37, go_sem]) rfl ⟨rfl, hW⟩
        · skip
          cases c5 : decide (b.lo.z ≤ p.z)
          · have hv := Lib.hid (show inS b p = false from by unfold inS; rw [c1, c2, c3, c4, c5]; simp)
            go_enter Try.func37, Try.ntmps37
            go_wp2
            rw [hv.out]
            exact bodyPost_ret (v := .bool false) (by simp [results, Try.results37, go_sem]) rfl ⟨rfl, hW⟩
          · have hv := Lib.hid (show inS b p = decide (p.z ≤ b.hi.z) from by unfold inS; rw [c1, c2, c3, c4, c5]; simp)
            go_enter Try.func37, Try.ntmps37
            go_wp2
            rw [hv.out]
            exact bodyPost_ret (v := .bool (decide (p.z ≤ b.hi.z))) (by simp [results, Try.results37, go_sem]) rfl ⟨rfl, hW⟩
set_option maxHeartbeats 400000 in
theorem rapartC (a b c d : Int) (w : World) : RetB Try.prog 42 #[.int .i64 a, .int .i64 b, .int .i64 c, .int .i64 d] w (.bool (decide (b < c) || decide (d < a))) := by
  unfold RetB
  cases c1 : decide (b < c)
  · go_enter Try.func42, Try.ntmps42
    go_wp2
    exact bodyPost_ret (v := .bool (decide (d < a))) (by simp [results, Try.results42, go_sem]) rfl ⟨by simp, Below.refl _ _⟩
  · go_enter Try.func42, Try.ntmps42
    go_wp2
    exact bodyPost_ret (v := .bool true) (by simp [results, Try.results42, go_sem]) rfl ⟨by simp, Below.refl _ _⟩
theorem inS_iff {b : Bd} {p : Pt} : inS b p = true ↔ b.lo.le p ∧ p.le b.hi := by
  unfold inS Pt.le
  simp
  omega
theorem holds_in {a b : Bd} (ha : a.ok) (hb : b.ok) : holds a b = (inS a b.lo && inS a b.hi) := by
  obtain ⟨_, _, h⟩ := id hb
  unfold Pt.le at h
  rw [Bool.eq_iff_iff, Bool.and_eq_true, inS_iff, inS_iff]
  unfold holds
  rw [decide_eq_true_iff]
  unfold Pt.le
  constructor
  · rintro ⟨_, _, h1, h2⟩
    omega
  · intro h1
    exact ⟨ha, hb, by omega, by omega⟩
set_option maxHeartbeats 2000000 in
theorem rholdsC (a b : Bd) (w : World) : RetB Try.prog 26 #[.agg #[.int .i64 a.lo.x, .int .i64 a.lo.y, .int .i64 a.lo.z, .int .i64 a.hi.x, .int .i64 a.hi.y, .int .i64 a.hi.z], .agg #[.int .i64 b.lo.x, .int .i64 b.lo.y, .int .i64 b.lo.z, .int .i64 b.hi.x, .int .i64 b.hi.y, .int .i64 b.hi.z]] w (.bool (holds a b)) := by
  unfold RetB
  by_cases ha : a.ok
  · by_cases hb : b.ok
    · have hv := Lib.hid (holds_in ha hb)
      go_enter Try.func26, Try.ntmps26
      go_wp2_with fail
      refine (rbd_ok a _ ha).mono ?_
      rintro e w1 ⟨rfl, hS⟩
      have hA : Box w1 w.heap.size [.int .i64 a.lo.x, .int .i64 a.lo.y, .int .i64 a.lo.z, .int .i64 a.hi.x, .int .i64 a.hi.y, .int .i64 a.hi.z] 26 := ((Box.new rfl).alloc _).step hS
      have hB : Box w1 (w.heap.size + 1) [.int .i64 b.lo.x, .int .i64 b.lo.y, .int .i64 b.lo.z, .int .i64 b.hi.x, .int .i64 b.hi.y, .int .i64 b.hi.z] 26 := (Box.new (by simp)).step hS
      have hW : Below w.heap.size w w1 := (((Below.refl _ _).alloc (Nat.le_refl _) _).alloc (by simp) _).trans (hS.mono (by simp; omega))
      clear hS
      have y0 := (hB).cell 0; have y1 := (hB).cell 1; have y2 := (hB).cell 2; have y3 := (hB).cell 3; have y4 := (hB).cell 4; have y5 := (hB).cell 5; have yf := (hB).free
      simp only [List.getElem?_cons_zero, List.getElem?_cons_succ] at y0 y1 y2 y3 y4 y5
      go_wp2_with fail
      refine (rbd_ok b _ hb).mono ?_
      rintro e w2 ⟨rfl, hS⟩
      have hA2 := hA.step hS; have hB2 := hB.step hS
      have hW2 := hW.trans (hS.mono hW.size)
      clear y0 y1 y2 y3 y4 y5 yf
      clear hS hA hB hW
      have x0 := (hA2).cell 0; have x1 := (hA2).cell 1; have x2 := (hA2).cell 2; have x3 := (hA2).cell 3; have x4 := (hA2).cell 4; have x5 := (hA2).cell 5; have xf := (hA2).free
      simp only [List.getElem?_cons_zero, List.getElem?_cons_succ] at x0 x1 x2 x3 x4 x5
      have y0 := (hB2).cell 0; have y1 := (hB2).cell 1; have y2 := (hB2).cell 2; have y3 := (hB2).cell 3; have y4 := (hB2).cell 4; have y5 := (hB2).cell 5; have yf := (hB2).free
      simp only [List.getElem?_cons_zero, List.getElem?_cons_succ] at y0 y1 y2 y3 y4 y5
      go_wp2_with fail
      cases c1 : inS a b.lo
      · refine ((rinC a b.lo _).eq (v' := .bool false) (by rw [c1])).mono ?_
        rintro e w3 ⟨rfl, hS⟩
        have hW3 := hW2.trans (hS.mono hW2.size)
        go_wp2
        rw [hv.out, c1]
        exact bodyPost_ret (v := .bool false) (by simp [results, Try.results26, go_sem]) rfl ⟨rfl, hW3⟩
      · refine ((rinC a b.lo _).eq (v' := .bool true) (by rw [c1])).mono ?_
        rintro e w3 ⟨rfl, hS⟩
        have hA3 := hA2.step hS; have hB3 := hB2.step hS
        have hW3 := hW2.trans (hS.mono hW2.size)
        clear x0 x1 x2 x3 x4 x5 xf
        clear y0 y1 y2 y3 y4 y5 yf
        clear hS hA2 hB2 hW2
        have x0 := (hA3).cell 0; have x1 := (hA3).cell 1; have x2 := (hA3).cell 2; have x3 := (hA3).cell 3; have x4 := (hA3).cell 4; have x5 := (hA3).cell 5; have xf := (hA3).free
        simp only [List.getElem?_cons_zero, List.getElem?_cons_succ] at x0 x1 x2 x3 x4 x5
        have y0 := (hB3).cell 0; have y1 := (hB3).cell 1; have y2 := (hB3).cell 2; have y3 := (hB3).cell 3; have y4 := (hB3).cell 4; have y5 := (hB3).cell 5; have yf := (hB3).free
        simp only [List.getElem?_cons_zero, List.getElem?_cons_succ] at y0 y1 y2 y3 y4 y5
        go_wp2_with fail
        refine (rinC a b.hi _).mono ?_
        rintro e w4 ⟨rfl, hS⟩
        have hW4 := hW3.trans (hS.mono hW3.size)
        go_wp2
        rw [hv.out, c1]
        exact bodyPost_ret (v := .bool (inS a b.hi)) (by simp [results, Try.results26, go_sem]) rfl ⟨rfl, hW4⟩
    · have hv := Lib.hid (show holds a b = false from decide_eq_false fun h => hb h.2.1)
      go_enter Try.func26, Try.ntmps26
      go_wp2_with fail
      refine (rbd_ok a _ ha).mono ?_
      rintro e w1 ⟨rfl, hS⟩
      have hA : Box w1 w.heap.size [.int .i64 a.lo.x, .int .i64 a.lo.y, .int .i64 a.lo.z, .int .i64 a.hi.x, .int .i64 a.hi.y, .int .i64 a.hi.z] 26 := ((Box.new rfl).alloc _).step hS
      have hB : Box w1 (w.heap.size + 1) [.int .i64 b.lo.x, .int .i64 b.lo.y, .int .i64 b.lo.z, .int .i64 b.hi.x, .int .i64 b.hi.y, .int .i64 b.hi.z] 26 := (Box.new (by simp)).step hS
      have hW : Below w.heap.size w w1 := (((Below.refl _ _).alloc (Nat.le_refl _) _).alloc (by simp) _).trans (hS.mono (by simp; omega))
      clear hS
      have y0 := (hB).cell 0; have y1 := (hB).cell 1; have y2 := (hB).cell 2; have y3 := (hB).cell 3; have y4 := (hB).cell 4; have y5 := (hB).cell 5; have yf := (hB).free
      simp only [List.getElem?_cons_zero, List.getElem?_cons_succ] at y0 y1 y2 y3 y4 y5
      go_wp2_with fail
      refine (rbd_no b _ hb).mono ?_
      rintro e w2 ⟨rfl, hS⟩
      have hW2 := hW.trans (hS.mono hW.size)
      go_wp2
      rw [hv.out]
      exact bodyPost_ret (v := .bool false) (by simp [results, Try.results26, go_sem]) rfl ⟨rfl, hW2⟩
  · have hv := Lib.hid (show holds a b = false from decide_eq_false fun h => ha h.1)
    go_enter Try.func26, Try.ntmps26
    go_wp2_with fail
    refine (rbd_no a _ ha).mono ?_
    rintro e w1 ⟨rfl, hS⟩
    have hA : Box w1 w.heap.size [.int .i64 a.lo.x, .int .i64 a.lo.y, .int .i64 a.lo.z, .int .i64 a.hi.x, .int .i64 a.hi.y, .int .i64 a.hi.z] 26 := ((Box.new rfl).alloc _).step hS
    have hB : Box w1 (w.heap.size + 1) [.int .i64 b.lo.x, .int .i64 b.lo.y, .int .i64 b.lo.z, .int .i64 b.hi.x, .int .i64 b.hi.y, .int .i64 b.hi.z] 26 := (Box.new (by simp)).step hS
    have hW : Below w.heap.size w w1 := (((Below.refl _ _).alloc (Nat.le_refl _) _).alloc (by simp) _).trans (hS.mono (by simp; omega))
    clear hS
    go_wp2
    rw [hv.out]
    exact bodyPost_ret (v := .bool false) (by simp [results, Try.results26, go_sem]) rfl ⟨rfl, hW⟩
def apS (a b c d : Int) : Bool := decide (b < c) || decide (d < a)
theorem apS_no {a b c d : Int} : apS a b c d = false ↔ c ≤ b ∧ a ≤ d := by unfold apS; simp
theorem meet_ap {a b : Bd} (ha : a.ok) (hb : b.ok) : meet a b = (!apS a.lo.x a.hi.x b.lo.x b.hi.x && !apS a.lo.y a.hi.y b.lo.y b.hi.y && !apS a.lo.z a.hi.z b.lo.z b.hi.z) := by
  obtain ⟨_, _, h1⟩ := id ha
  obtain ⟨_, _, h2⟩ := id hb
  unfold Pt.le at h1 h2
  rw [Bool.eq_iff_iff, Bool.and_eq_true, Bool.and_eq_true, Bool.not_eq_true', Bool.not_eq_true', Bool.not_eq_true', apS_no, apS_no, apS_no]
  unfold meet
  rw [decide_eq_true_iff]
  unfold Pt.le pmax pmin
  simp only
  constructor
  · rintro ⟨_, _, h3⟩
    omega
  · intro h3
    exact ⟨ha, hb, by omega, by omega, by omega⟩
set_option maxHeartbeats 2000000 in
theorem rmeetC (a b : Bd) (w : World) : RetB Try.prog 25 #[.agg #[.int .i64 a.lo.x, .int .i64 a.lo.y, .int .i64 a.lo.z, .int .i64 a.hi.x, .int .i64 a.hi.y, .int .i64 a.hi.z], .agg #[.int .i64 b.lo.x, .int .i64 b.lo.y, .int .i64 b.lo.z, .int .i64 b.hi.x, .int .i64 b.hi.y, .int .i64 b.hi.z]] w (.bool (meet a b)) := by
  unfold RetB
  by_cases ha : a.ok
  · by_cases hb : b.ok
    · have hv := Lib.hid (meet_ap ha hb)
      go_enter Try.func25, Try.ntmps25
      go_wp2_with fail
      refine (rbd_ok a _ ha).mono ?_
      rintro e w1 ⟨rfl, hS⟩
      have hA : Box w1 w.heap.size [.int .i64 a.lo.x, .int .i64 a.lo.y, .int .i64 a.lo.z, .int .i64 a.hi.x, .int .i64 a.hi.y, .int .i64 a.hi.z] 26 := ((Box.new rfl).alloc _).step hS
      have hB : Box w1 (w.heap.size + 1) [.int .i64 b.lo.x, .int .i64 b.lo.y, .int .i64 b.lo.z, .int .i64 b.hi.x, .int .i64 b.hi.y, .int .i64 b.hi.z] 26 := (Box.new (by simp)).step hS
      have hW : Below w.heap.size w w1 := (((Below.refl _ _).alloc (Nat.le_refl _) _).alloc (by simp) _).trans (hS.mono (by simp; omega))
      clear hS
      have y0 := (hB).cell 0; have y1 := (hB).cell 1; have y2 := (hB).cell 2; have y3 := (hB).cell 3; have y4 := (hB).cell 4; have y5 := (hB).cell 5; have yf := (hB).free
      simp only [List.getElem?_cons_zero, List.getElem?_cons_succ] at y0 y1 y2 y3 y4 y5
      go_wp2_with fail
      refine (rbd_ok b _ hb).mono ?_
      rintro e w2 ⟨rfl, hS⟩
      have hA2 := hA.step hS; have hB2 := hB.step hS
      have hW2 := hW.trans (hS.mono hW.size)
      clear y0 y1 y2 y3 y4 y5 yf
      clear hS hA hB hW
      have x0 := (hA2).cell 0; have x1 := (hA2).cell 1; have x2 := (hA2).cell 2; have x3 := (hA2).cell 3; have x4 := (hA2).cell 4; have x5 := (hA2).cell 5; have xf := (hA2).free
      simp only [List.getElem?_cons_zero, List.getElem?_cons_succ] at x0 x1 x2 x3 x4 x5
      have y0 := (hB2).cell 0; have y1 := (hB2).cell 1; have y2 := (hB2).cell 2; have y3 := (hB2).cell 3; have y4 := (hB2).cell 4; have y5 := (hB2).cell 5; have yf := (hB2).free
      simp only [List.getElem?_cons_zero, List.getElem?_cons_succ] at y0 y1 y2 y3 y4 y5
      go_wp2_with fail
      cases c1 : apS a.lo.x a.hi.x b.lo.x b.hi.x
      rotate_left
      · refine ((rapartC a.lo.x a.hi.x b.lo.x b.hi.x _).eq (v' := .bool true) (by rw [← c1]; rfl)).mono ?_
        rintro e w3 ⟨rfl, hS⟩
        have hW3 := hW2.trans (hS.mono hW2.size)
        go_wp2
        rw [hv.out, c1]
        exact bodyPost_ret (v := .bool false) (by simp [results, Try.results25, go_sem]) rfl ⟨by simp, hW3⟩
      · refine ((rapartC a.lo.x a.hi.x b.lo.x b.hi.x _).eq (v' := .bool false) (by rw [← c1]; rfl)).mono ?_
        rintro e w3 ⟨rfl, hS⟩
        have hA3 := hA2.step hS; have hB3 := hB2.step hS
        have hW3 := hW2.trans (hS.mono hW2.size)
        clear x0 x1 x2 x3 x4 x5 xf
        clear y0 y1 y2 y3 y4 y5 yf
        clear hS hA2 hB2 hW2
        have x0 := (hA3).cell 0; have x1 := (hA3).cell 1; have x2 := (hA3).cell 2; have x3 := (hA3).cell 3; have x4 := (hA3).cell 4; have x5 := (hA3).cell 5; have xf := (hA3).free
        simp only [List.getElem?_cons_zero, List.getElem?_cons_succ] at x0 x1 x2 x3 x4 x5
        have y0 := (hB3).cell 0; have y1 := (hB3).cell 1; have y2 := (hB3).cell 2; have y3 := (hB3).cell 3; have y4 := (hB3).cell 4; have y5 := (hB3).cell 5; have yf := (hB3).free
        simp only [List.getElem?_cons_zero, List.getElem?_cons_succ] at y0 y1 y2 y3 y4 y5
        go_wp2_with fail
        cases c2 : apS a.lo.y a.hi.y b.lo.y b.hi.y
        rotate_left
        · refine ((rapartC a.lo.y a.hi.y b.lo.y b.hi.y _).eq (v' := .bool true) (by rw [← c2]; rfl)).mono ?_
          rintro e w4 ⟨rfl, hS⟩
          have hW4 := hW3.trans (hS.mono hW3.size)
          go_wp2
          rw [hv.out, c1, c2]
          exact bodyPost_ret (v := .bool false) (by simp [results, Try.results25, go_sem]) rfl ⟨by simp, hW4⟩
        · refine ((rapartC a.lo.y a.hi.y b.lo.y b.hi.y _).eq (v' := .bool false) (by rw [← c2]; rfl)).mono ?_
          rintro e w4 ⟨rfl, hS⟩
          have hA4 := hA3.step hS; have hB4 := hB3.step hS
          have hW4 := hW3.trans (hS.mono hW3.size)
          clear x0 x1 x2 x3 x4 x5 xf
          clear y0 y1 y2 y3 y4 y5 yf
          clear hS hA3 hB3 hW3
          have x0 := (hA4).cell 0; have x1 := (hA4).cell 1; have x2 := (hA4).cell 2; have x3 := (hA4).cell 3; have x4 := (hA4).cell 4; have x5 := (hA4).cell 5; have xf := (hA4).free
          simp only [List.getElem?_cons_zero, List.getElem?_cons_succ] at x0 x1 x2 x3 x4 x5
          have y0 := (hB4).cell 0; have y1 := (hB4).cell 1; have y2 := (hB4).cell 2; have y3 := (hB4).cell 3; have y4 := (hB4).cell 4; have y5 := (hB4).cell 5; have yf := (hB4).free
          simp only [List.getElem?_cons_zero, List.getElem?_cons_succ] at y0 y1 y2 y3 y4 y5
          go_wp2_with fail
          refine ((rapartC a.lo.z a.hi.z b.lo.z b.hi.z _).eq (v' := .bool (apS a.lo.z a.hi.z b.lo.z b.hi.z)) rfl).mono ?_
          rintro e w5 ⟨rfl, hS⟩
          have hW5 := hW4.trans (hS.mono hW4.size)
          go_wp2
          rw [hv.out, c1, c2]
          exact bodyPost_ret (v := .bool (!apS a.lo.z a.hi.z b.lo.z b.hi.z)) (by simp [results, Try.results25, go_sem]) rfl ⟨by simp, hW5⟩
    · have hv := Lib.hid (show meet a b = false from decide_eq_false fun h => hb h.2.1)
      go_enter Try.func25, Try.ntmps25
      go_wp2_with fail
      refine (rbd_ok a _ ha).mono ?_
      rintro e w1 ⟨rfl, hS⟩
      have hA : Box w1 w.heap.size [.int .i64 a.lo.x, .int .i64 a.lo.y, .int .i64 a.lo.z, .int .i64 a.hi.x, .int .i64 a.hi.y, .int .i64 a.hi.z] 26 := ((Box.new rfl).alloc _).step hS
      have hB : Box w1 (w.heap.size + 1) [.int .i64 b.lo.x, .int .i64 b.lo.y, .int .i64 b.lo.z, .int .i64 b.hi.x, .int .i64 b.hi.y, .int .i64 b.hi.z] 26 := (Box.new (by simp)).step hS
      have hW : Below w.heap.size w w1 := (((Below.refl _ _).alloc (Nat.le_refl _) _).alloc (by simp) _).trans (hS.mono (by simp; omega))
      clear hS
      have y0 := (hB).cell 0; have y1 := (hB).cell 1; have y2 := (hB).cell 2; have y3 := (hB).cell 3; have y4 := (hB).cell 4; have y5 := (hB).cell 5; have yf := (hB).free
      simp only [List.getElem?_cons_zero, List.getElem?_cons_succ] at y0 y1 y2 y3 y4 y5
      go_wp2_with fail
      refine (rbd_no b _ hb).mono ?_
      rintro e w2 ⟨rfl, hS⟩
      have hW2 := hW.trans (hS.mono hW.size)
      go_wp2
      rw [hv.out]
      exact bodyPost_ret (v := .bool false) (by simp [results, Try.results25, go_sem]) rfl ⟨rfl, hW2⟩
  · have hv := Lib.hid (show meet a b = false from decide_eq_false fun h => ha h.1)
    go_enter Try.func25, Try.ntmps25
    go_wp2_with fail
    refine (rbd_no a _ ha).mono ?_
    rintro e w1 ⟨rfl, hS⟩
    have hA : Box w1 w.heap.size [.int .i64 a.lo.x, .int .i64 a.lo.y, .int .i64 a.lo.z, .int .i64 a.hi.x, .int .i64 a.hi.y, .int .i64 a.hi.z] 26 := ((Box.new rfl).alloc _).step hS
    have hB : Box w1 (w.heap.size + 1) [.int .i64 b.lo.x, .int .i64 b.lo.y, .int .i64 b.lo.z, .int .i64 b.hi.x, .int .i64 b.hi.y, .int .i64 b.hi.z] 26 := (Box.new (by simp)).step hS
    have hW : Below w.heap.size w w1 := (((Below.refl _ _).alloc (Nat.le_refl _) _).alloc (by simp) _).trans (hS.mono (by simp; omega))
    clear hS
    go_wp2
    rw [hv.out]
    exact bodyPost_ret (v := .bool false) (by simp [results, Try.results25, go_sem]) rfl ⟨rfl, hW⟩
end Go.Proofs.Ytegmfmonkaimcaa
