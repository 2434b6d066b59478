/- The document's sums and products of small numbers, and where a way is within a side: the walks. No condition. -/
import Derived.Test.YtegmfmonkaimcaaRBit4
namespace Go.Proofs.Ytegmfmonkaimcaa
set_option linter.unusedVariables false
set_option linter.unusedSimpArgs false
open Go.RowKit Go.NP
theorem cf58 (args : Array Value) (w1 : World) : (callFunc 58 args).run Try.prog w1 = .ok (.enter 58 args) w1 := enters Try.func58 (by kernel_rfl) (by kernel_rfl) args w1
theorem cf59 (args : Array Value) (w1 : World) : (callFunc 59 args).run Try.prog w1 = .ok (.enter 59 args) w1 := enters Try.func59 (by kernel_rfl) (by kernel_rfl) args w1
theorem i63_mid {x : Int} (h : i63 x) : mid x := by
  obtain ⟨h0, h1⟩ := h
  have := p2_mono (i := 63) (j := 250) (by omega)
  have e : (2 : Int) ^ 63 = 9223372036854775808 := by decide
  exact ⟨by omega, by omega⟩
theorem below_alloc {W w : World} (h : Below W.heap.size W w) (o : Obj) : Below W.heap.size W (w.alloc o) := h.alloc h.size o
set_option maxHeartbeats 2000000 in
theorem plusW {x y : Int} (hx : fits x) (hy : fits y) (hxy : fits (x + y)) (w : World) : RetB Try.prog 57 #[.agg #[.int .u64 (w8 x).a, .int .u64 (w8 x).b, .int .u64 (w8 x).c, .int .u64 (w8 x).d, .int .u64 (w8 x).e, .int .u64 (w8 x).f, .int .u64 (w8 x).g, .int .u64 (w8 x).h], .agg #[.int .u64 (w8 y).a, .int .u64 (w8 y).b, .int .u64 (w8 y).c, .int .u64 (w8 y).d, .int .u64 (w8 y).e, .int .u64 (w8 y).f, .int .u64 (w8 y).g, .int .u64 (w8 y).h]] w (.agg #[.int .u64 (w8 (x + y)).a, .int .u64 (w8 (x + y)).b, .int .u64 (w8 (x + y)).c, .int .u64 (w8 (x + y)).d, .int .u64 (w8 (x + y)).e, .int .u64 (w8 (x + y)).f, .int .u64 (w8 (x + y)).g, .int .u64 (w8 (x + y)).h]) := by
  have H := Lib.hid (fun w => addB hx hy hxy w)
  clear hx hy hxy
  unfold RetB
  go_enter Try.func57, Try.ntmps57
  go_wp2_with fail
  refine (H.out _).mono ?_
  rintro e w1 ⟨rfl, hS⟩
  have hR : Box w1 (w.heap.size + 1 + 1) [.int .u64 0, .int .u64 0, .int .u64 0, .int .u64 0, .int .u64 0, .int .u64 0, .int .u64 0, .int .u64 0] 62 := (Box.new (by simp)).step hS
  have hW : Below w.heap.size w w1 := ((((Below.refl _ _).alloc (Nat.le_refl _) _).alloc (by simp) _).alloc (by simp; omega) _).trans (hS.mono (by simp; omega))
  have l0 := hR.lt
  have q0 := (hR).cell 0; have q1 := (hR).cell 1; have q2 := (hR).cell 2; have q3 := (hR).cell 3; have q4 := (hR).cell 4; have q5 := (hR).cell 5; have q6 := (hR).cell 6; have q7 := (hR).cell 7; have qf := (hR).free
  simp only [List.getElem?_cons_zero, List.getElem?_cons_succ] at q0 q1 q2 q3 q4 q5 q6 q7
  clear hS
  go_wp2
  exact bodyPost_ret (v := .agg #[.int .u64 (w8 (x + y)).a, .int .u64 (w8 (x + y)).b, .int .u64 (w8 (x + y)).c, .int .u64 (w8 (x + y)).d, .int .u64 (w8 (x + y)).e, .int .u64 (w8 (x + y)).f, .int .u64 (w8 (x + y)).g, .int .u64 (w8 (x + y)).h]) (by simp [results, Try.results57, go_sem, *]) rfl ⟨rfl, below_alloc (((((((((hW).setCell (by first | omega | (simp; done) | (simp; omega)) _).setCell (by first | omega | (simp; done) | (simp; omega)) _).setCell (by first | omega | (simp; done) | (simp; omega)) _).setCell (by first | omega | (simp; done) | (simp; omega)) _).setCell (by first | omega | (simp; done) | (simp; omega)) _).setCell (by first | omega | (simp; done) | (simp; omega)) _).setCell (by first | omega | (simp; done) | (simp; omega)) _).setCell (by first | omega | (simp; done) | (simp; omega)) _) _⟩
set_option maxHeartbeats 2000000 in
theorem timesW {x y : Int} (hx : mid x) (hy : mid y) (w : World) : RetB Try.prog 62 #[.agg #[.int .u64 (w8 x).a, .int .u64 (w8 x).b, .int .u64 (w8 x).c, .int .u64 (w8 x).d, .int .u64 (w8 x).e, .int .u64 (w8 x).f, .int .u64 (w8 x).g, .int .u64 (w8 x).h], .agg #[.int .u64 (w8 y).a, .int .u64 (w8 y).b, .int .u64 (w8 y).c, .int .u64 (w8 y).d, .int .u64 (w8 y).e, .int .u64 (w8 y).f, .int .u64 (w8 y).g, .int .u64 (w8 y).h]] w (.agg #[.int .u64 (w8 (x * y)).a, .int .u64 (w8 (x * y)).b, .int .u64 (w8 (x * y)).c, .int .u64 (w8 (x * y)).d, .int .u64 (w8 (x * y)).e, .int .u64 (w8 (x * y)).f, .int .u64 (w8 (x * y)).g, .int .u64 (w8 (x * y)).h]) := by
  have H := Lib.hid (fun w => mulB hx hy w)
  clear hx hy
  unfold RetB
  go_enter Try.func62, Try.ntmps62
  go_wp2_with fail
  refine (H.out _).mono ?_
  rintro e w1 ⟨rfl, hS⟩
  have hR : Box w1 (w.heap.size + 1 + 1) [.int .u64 0, .int .u64 0, .int .u64 0, .int .u64 0, .int .u64 0, .int .u64 0, .int .u64 0, .int .u64 0] 62 := (Box.new (by simp)).step hS
  have hW : Below w.heap.size w w1 := ((((Below.refl _ _).alloc (Nat.le_refl _) _).alloc (by simp) _).alloc (by simp; omega) _).trans (hS.mono (by simp; omega))
  have l0 := hR.lt
  have q0 := (hR).cell 0; have q1 := (hR).cell 1; have q2 := (hR).cell 2; have q3 := (hR).cell 3; have q4 := (hR).cell 4; have q5 := (hR).cell 5; have q6 := (hR).cell 6; have q7 := (hR).cell 7; have qf := (hR).free
  simp only [List.getElem?_cons_zero, List.getElem?_cons_succ] at q0 q1 q2 q3 q4 q5 q6 q7
  clear hS
  go_wp2
  exact bodyPost_ret (v := .agg #[.int .u64 (w8 (x * y)).a, .int .u64 (w8 (x * y)).b, .int .u64 (w8 (x * y)).c, .int .u64 (w8 (x * y)).d, .int .u64 (w8 (x * y)).e, .int .u64 (w8 (x * y)).f, .int .u64 (w8 (x * y)).g, .int .u64 (w8 (x * y)).h]) (by simp [results, Try.results62, go_sem, *]) rfl ⟨rfl, below_alloc (((((((((hW).setCell (by first | omega | (simp; done) | (simp; omega)) _).setCell (by first | omega | (simp; done) | (simp; omega)) _).setCell (by first | omega | (simp; done) | (simp; omega)) _).setCell (by first | omega | (simp; done) | (simp; omega)) _).setCell (by first | omega | (simp; done) | (simp; omega)) _).setCell (by first | omega | (simp; done) | (simp; omega)) _).setCell (by first | omega | (simp; done) | (simp; omega)) _).setCell (by first | omega | (simp; done) | (simp; omega)) _) _⟩
set_option maxHeartbeats 2000000 in
theorem mulW {x y : Int} (hx : i63 x) (hy : i63 y) (w : World) : RetB Try.prog 58 #[.int .i64 x, .int .i64 y] w (.agg #[.int .u64 (w8 (x * y)).a, .int .u64 (w8 (x * y)).b, .int .u64 (w8 (x * y)).c, .int .u64 (w8 (x * y)).d, .int .u64 (w8 (x * y)).e, .int .u64 (w8 (x * y)).f, .int .u64 (w8 (x * y)).g, .int .u64 (w8 (x * y)).h]) := by
  have H1 := Lib.hid (fun w => smallB hx w)
  have H2 := Lib.hid (fun w => smallB hy w)
  have H := Lib.hid (fun w => timesW (i63_mid hx) (i63_mid hy) w)
  clear hx hy
  unfold RetB
  go_enter Try.func58, Try.ntmps58
  go_wp2_with fail
  refine (H1.out _).mono ?_
  rintro e w1 ⟨rfl, hS⟩
  have hR : Box w1 w.heap.size [.int .u64 0, .int .u64 0, .int .u64 0, .int .u64 0, .int .u64 0, .int .u64 0, .int .u64 0, .int .u64 0] 62 := (Box.new rfl).step hS
  have hW : Below w.heap.size w w1 := ((Below.refl _ _).alloc (Nat.le_refl _) _).trans (hS.mono (by simp))
  clear hS
  go_wp2_with fail
  refine (H2.out _).mono ?_
  rintro e w2 ⟨rfl, hS⟩
  have hR := hR.step hS
  have hW := hW.trans (hS.mono hW.size)
  clear hS
  go_wp2_with fail
  refine (H.out _).mono ?_
  rintro e w3 ⟨rfl, hS⟩
  have hR := hR.step hS
  have hW := hW.trans (hS.mono hW.size)
  clear hS
  have l0 := hR.lt
  have q0 := (hR).cell 0; have q1 := (hR).cell 1; have q2 := (hR).cell 2; have q3 := (hR).cell 3; have q4 := (hR).cell 4; have q5 := (hR).cell 5; have q6 := (hR).cell 6; have q7 := (hR).cell 7; have qf := (hR).free
  simp only [List.getElem?_cons_zero, List.getElem?_cons_succ] at q0 q1 q2 q3 q4 q5 q6 q7
  go_wp2
  exact bodyPost_ret (v := .agg #[.int .u64 (w8 (x * y)).a, .int .u64 (w8 (x * y)).b, .int .u64 (w8 (x * y)).c, .int .u64 (w8 (x * y)).d, .int .u64 (w8 (x * y)).e, .int .u64 (w8 (x * y)).f, .int .u64 (w8 (x * y)).g, .int .u64 (w8 (x * y)).h]) (by simp [results, Try.results58, go_sem, *]) rfl ⟨rfl, ((((((((hW).setCell (by first | omega | (simp; done) | (simp; omega)) _).setCell (by first | omega | (simp; done) | (simp; omega)) _).setCell (by first | omega | (simp; done) | (simp; omega)) _).setCell (by first | omega | (simp; done) | (simp; omega)) _).setCell (by first | omega | (simp; done) | (simp; omega)) _).setCell (by first | omega | (simp; done) | (simp; omega)) _).setCell (by first | omega | (simp; done) | (simp; omega)) _).setCell (by first | omega | (simp; done) | (simp; omega)) _⟩
/-- Small numbers. -/
def sm (n : Int) : Prop := -1073741824 ≤ n ∧ n ≤ 1073741824
theorem sm_63 {n : Int} (h : sm n) : i63 n := by unfold sm i63 at *; omega
theorem sm_mul {a b : Int} (ha : sm a) (hb : sm b) : -1152921504606846976 ≤ a * b ∧ a * b ≤ 1152921504606846976 := by
  have h : ((a * b).natAbs : Int) ≤ 1152921504606846976 := by
    rw [Int.natAbs_mul]
    have h1 : (a.natAbs : Int) ≤ 1073741824 := by unfold sm at ha; omega
    have h2 : (b.natAbs : Int) ≤ 1073741824 := by unfold sm at hb; omega
    have : (a.natAbs : Int) * (b.natAbs : Int) ≤ 1073741824 * 1073741824 := Int.mul_le_mul h1 h2 (by omega) (by decide)
    simpa using this
  omega
def within (lo hi f t n d : Int) : Bool := decide (lo * d ≤ f * d + (t - f) * n) && decide (f * d + (t - f) * n ≤ hi * d)
theorem cmpI_le {x y : Int} : decide (cmpI x y ≤ 0) = decide (x ≤ y) := by
  apply decide_eq_decide.2
  unfold cmpI
  split
  · omega
  · split <;> omega
set_option maxRecDepth 100000 in
set_option maxHeartbeats 4000000 in
theorem atW {lo hi f t n d : Int} (h1 : sm lo) (h2 : sm hi) (h3 : sm f) (h4 : sm (t - f)) (h4t : sm t) (h5 : sm n) (h6 : sm d) (w : World) :
    RetB Try.prog 49 #[.int .i64 f, .int .i64 t, .int .i64 lo, .int .i64 hi, .int .i64 n, .int .i64 d] w (.bool (within lo hi f t n d)) := by
  have a1 := sm_mul h3 h6; have a2 := sm_mul h4 h5; have a3 := sm_mul h1 h6; have a4 := sm_mul h2 h6
  have C1 := Lib.hid (fun w => mulW (sm_63 h3) (sm_63 h6) w)
  have C2 := Lib.hid (fun w => mulW (sm_63 h4) (sm_63 h5) w)
  have C3 := Lib.hid (fun w => plusW (mid_fits (i63_mid (x := f * d) (by unfold i63; omega))) (mid_fits (i63_mid (x := (t - f) * n) (by unfold i63; omega))) (mid_fits (i63_mid (x := f * d + (t - f) * n) (by unfold i63; omega))) w)
  have C4 := Lib.hid (fun w => mulW (sm_63 h1) (sm_63 h6) w)
  have C5 := Lib.hid (fun w => mulW (sm_63 h2) (sm_63 h6) w)
  have C6 := Lib.hid (fun w => cmpB (x := lo * d) (y := f * d + (t - f) * n) (i63_mid (by unfold i63; omega)) (i63_mid (by unfold i63; omega)) w)
  have C7 := Lib.hid (fun w => cmpB (x := f * d + (t - f) * n) (y := hi * d) (i63_mid (by unfold i63; omega)) (i63_mid (by unfold i63; omega)) w)
  have E1 := Lib.hid (cmpI_le (x := lo * d) (y := f * d + (t - f) * n))
  have E2 := Lib.hid (cmpI_le (x := f * d + (t - f) * n) (y := hi * d))
  have HR := Lib.hid (show within lo hi f t n d = (decide (lo * d ≤ f * d + (t - f) * n) && decide (f * d + (t - f) * n ≤ hi * d)) from rfl)
  have hw : IntKind.i64.wrap (t - f) = t - f := IntWalk.i64_in _ (by unfold sm at h4; omega)
  obtain ⟨b1, b2⟩ := h3; obtain ⟨b3, b4⟩ := h4t
  clear a1 a2 a3 a4 h1 h2 h4 h5 h6
  generalize f * d + (t - f) * n = x at *
  generalize hl : lo * d = l at *
  generalize hh : hi * d = h at *
  have HL := Lib.hid hl; have HH := Lib.hid hh
  clear hl hh
  unfold RetB
  go_enter Try.func49, Try.ntmps49
  go_wp2_with fail
  refine (C1.out _).mono ?_
  rintro e w1 ⟨rfl, hW⟩
  go_wp2_with fail
  refine (C2.out _).mono ?_
  rintro e w2 ⟨rfl, hS⟩
  have hW := hW.trans (hS.mono hW.size)
  clear hS
  go_wp2_with fail
  refine (C3.out _).mono ?_
  rintro e w3 ⟨rfl, hS⟩
  have hW := hW.trans (hS.mono hW.size)
  clear hS
  go_wp2_with fail
  have hB : Box (w3.alloc (.cells [.int .u64 (w8 x).a, .int .u64 (w8 x).b, .int .u64 (w8 x).c, .int .u64 (w8 x).d, .int .u64 (w8 x).e, .int .u64 (w8 x).f, .int .u64 (w8 x).g, .int .u64 (w8 x).h].toArray 62)) w3.heap.size [.int .u64 (w8 x).a, .int .u64 (w8 x).b, .int .u64 (w8 x).c, .int .u64 (w8 x).d, .int .u64 (w8 x).e, .int .u64 (w8 x).f, .int .u64 (w8 x).g, .int .u64 (w8 x).h] 62 := Box.new rfl
  have hW := hW.alloc hW.size (.cells [.int .u64 (w8 x).a, .int .u64 (w8 x).b, .int .u64 (w8 x).c, .int .u64 (w8 x).d, .int .u64 (w8 x).e, .int .u64 (w8 x).f, .int .u64 (w8 x).g, .int .u64 (w8 x).h].toArray 62)
  revert hB hW
  generalize w3.alloc (.cells [.int .u64 (w8 x).a, .int .u64 (w8 x).b, .int .u64 (w8 x).c, .int .u64 (w8 x).d, .int .u64 (w8 x).e, .int .u64 (w8 x).f, .int .u64 (w8 x).g, .int .u64 (w8 x).h].toArray 62) = w4
  generalize w3.heap.size = n3 at *
  intro hB hW
  have l0 := hB.lt
  have q0 := (hB).cell 0; have q1 := (hB).cell 1; have q2 := (hB).cell 2; have q3 := (hB).cell 3; have q4 := (hB).cell 4; have q5 := (hB).cell 5; have q6 := (hB).cell 6; have q7 := (hB).cell 7; have qf := (hB).free
  simp only [List.getElem?_cons_zero, List.getElem?_cons_succ] at q0 q1 q2 q3 q4 q5 q6 q7
  generalize hr1 : cmpI l x = r1 at *
  generalize hr2 : cmpI x h = r2 at *
  clear hr1 hr2
  obtain ⟨p1, hp1⟩ : ∃ p, decide (l ≤ x) = p := ⟨_, rfl⟩
  obtain ⟨p2, hp2⟩ : ∃ p, decide (x ≤ h) = p := ⟨_, rfl⟩
  have e1 := E1.out.trans hp1
  have e2 := E2.out.trans hp2
  have HR2 := Lib.hid (show within lo hi f t n d = (p1 && p2) by rw [HR.out, hp1, hp2])
  clear hp1 hp2
  cases p1
  · refine wp_region_ph [(14, .free [])] (by kernel_rfl) (by kernel_rfl) ?_
    refine Ph.belowd ?_
    simp only [List.drop_succ_cons, List.drop_zero, List.take_succ_cons, List.take_zero, Nat.reduceSub, Nat.sub_zero]
    iterate 2 (refine SeqO.val (v := ?_) (by rfl) (by rfl) (fun w1 hS => ?_) ?_; rotate_left; (· obtain ⟨hc, hcf⟩ := bcell hS; go_simp; try with_reducible rfl); simp only [Act.put, List.setIfInBounds_toArray, List.set_cons_zero, List.set_cons_succ])
    refine SeqO.callv (by rfl) (by rfl) (by rfl) cf58 (by simp [Act.eval]) (fun w1 hS => (C4.out w1)) ?_
    simp only [Act.put, List.setIfInBounds_toArray, List.set_cons_zero, List.set_cons_succ]
    iterate 1 (refine SeqO.val (v := ?_) (by rfl) (by rfl) (fun w1 hS => ?_) ?_; rotate_left; (· obtain ⟨hc, hcf⟩ := bcell hS; go_simp; try with_reducible rfl); simp only [Act.put, List.setIfInBounds_toArray, List.set_cons_zero, List.set_cons_succ])
    refine SeqO.callv (by rfl) (by rfl) (by rfl) cf59 (by simp [Act.eval]) (fun w1 hS => (C6.out w1)) ?_
    simp only [Act.put, List.setIfInBounds_toArray, List.set_cons_zero, List.set_cons_succ]
    repeat (first | (refine SeqO.skip (by rfl) (by rfl) ?_; simp only [Act.put, List.setIfInBounds_toArray, List.set_cons_zero, List.set_cons_succ])  | (refine SeqO.val (v := ?_) (by rfl) (by rfl) (fun w1 hS => ?_) ?_; rotate_left; (· obtain ⟨hc, hcf⟩ := bcell hS; go_simp; try with_reducible rfl); simp only [Act.put, List.setIfInBounds_toArray, List.set_cons_zero, List.set_cons_succ]))
    refine SeqO.nil0 fun w5 hS => ?_
    have hW := hW.trans (hS.mono hW.size)
    refine Ph.last ?_
    simp only [List.drop_succ_cons, List.drop_zero, List.take_succ_cons, List.take_zero, Nat.reduceSub, Nat.sub_zero]
    go_wp2
    rw [HR2.out]
    exact bodyPost_ret (v := .bool false) (by simp [results, Try.results49, go_sem]) rfl ⟨rfl, hW⟩
  · refine wp_region_ph [(14, .free [])] (by kernel_rfl) (by kernel_rfl) ?_
    refine Ph.belowd ?_
    simp only [List.drop_succ_cons, List.drop_zero, List.take_succ_cons, List.take_zero, Nat.reduceSub, Nat.sub_zero]
    iterate 2 (refine SeqO.val (v := ?_) (by rfl) (by rfl) (fun w1 hS => ?_) ?_; rotate_left; (· obtain ⟨hc, hcf⟩ := bcell hS; go_simp; try with_reducible rfl); simp only [Act.put, List.setIfInBounds_toArray, List.set_cons_zero, List.set_cons_succ])
    refine SeqO.callv (by rfl) (by rfl) (by rfl) cf58 (by simp [Act.eval]) (fun w1 hS => (C4.out w1)) ?_
    simp only [Act.put, List.setIfInBounds_toArray, List.set_cons_zero, List.set_cons_succ]
    iterate 1 (refine SeqO.val (v := ?_) (by rfl) (by rfl) (fun w1 hS => ?_) ?_; rotate_left; (· obtain ⟨hc, hcf⟩ := bcell hS; go_simp; try with_reducible rfl); simp only [Act.put, List.setIfInBounds_toArray, List.set_cons_zero, List.set_cons_succ])
    refine SeqO.callv (by rfl) (by rfl) (by rfl) cf59 (by simp [Act.eval]) (fun w1 hS => (C6.out w1)) ?_
    simp only [Act.put, List.setIfInBounds_toArray, List.set_cons_zero, List.set_cons_succ]
    iterate 5 (refine SeqO.val (v := ?_) (by rfl) (by rfl) (fun w1 hS => ?_) ?_; rotate_left; (· obtain ⟨hc, hcf⟩ := bcell hS; go_simp; try with_reducible rfl); simp only [Act.put, List.setIfInBounds_toArray, List.set_cons_zero, List.set_cons_succ])
    refine SeqO.callv (by rfl) (by rfl) (by rfl) cf58 (by simp [Act.eval]) (fun w1 hS => (C5.out w1)) ?_
    simp only [Act.put, List.setIfInBounds_toArray, List.set_cons_zero, List.set_cons_succ]
    refine SeqO.callv (by rfl) (by rfl) (by rfl) cf59 (by simp [Act.eval]) (fun w1 hS => (C7.out w1)) ?_
    simp only [Act.put, List.setIfInBounds_toArray, List.set_cons_zero, List.set_cons_succ]
    repeat (first | (refine SeqO.skip (by rfl) (by rfl) ?_; simp only [Act.put, List.setIfInBounds_toArray, List.set_cons_zero, List.set_cons_succ])  | (refine SeqO.val (v := ?_) (by rfl) (by rfl) (fun w1 hS => ?_) ?_; rotate_left; (· obtain ⟨hc, hcf⟩ := bcell hS; go_simp; try with_reducible rfl); simp only [Act.put, List.setIfInBounds_toArray, List.set_cons_zero, List.set_cons_succ]))
    refine SeqO.nil0 fun w5 hS => ?_
    have hW := hW.trans (hS.mono hW.size)
    refine Ph.last ?_
    simp only [List.drop_succ_cons, List.drop_zero, List.take_succ_cons, List.take_zero, Nat.reduceSub, Nat.sub_zero]
    go_wp2
    rw [HR2.out]
    exact bodyPost_ret (v := .bool p2) (by simp [results, Try.results49, go_sem]) rfl ⟨rfl, hW⟩
end Go.Proofs.Ytegmfmonkaimcaa
