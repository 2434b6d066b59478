/- Does a way come to a bound, as the document says: the walks. No condition. -/
import Derived.Test.YtbcjnckejkjfeaaGreatQax
import Derived.Test.YtbcjnckejkjfeaaGreatQau
import Derived.Test.YtbcjnckejkjfeaaGreatQan
import Derived.Test.YtbcjnckejkjfeaaGreatQac
import Derived.Deep.DeepCutAuto
namespace Go.Proofs.YtbcjnckejkjfeaaGreat
set_option linter.unusedVariables false
set_option linter.unusedSimpArgs false
open Go.RowKit Go.NP
namespace RHit
theorem cf70 (args : Array Value) (w1 : World) : (callFunc 70 args).run Tryz.prog w1 = .ok (.enter 70 args) w1 := enters Tryz.func70 (by kernel_rfl) (by kernel_rfl) args w1
theorem cf66 (args : Array Value) (w1 : World) : (callFunc 66 args).run Tryz.prog w1 = .ok (.enter 66 args) w1 := enters Tryz.func66 (by kernel_rfl) (by kernel_rfl) args w1
def nrm (n d : Int) : Fr := if d < 0 then ⟨-n, -d⟩ else ⟨n, d⟩
def wit (a : Bd) (f t : Pt) (q : Fr) : Bool := within a.lo.x a.hi.x f.x t.x q.n q.d && (within a.lo.y a.hi.y f.y t.y q.n q.d && within a.lo.z a.hi.z f.z t.z q.n q.d)
def thereS (a : Bd) (f t : Pt) (n d : Int) : Bool := decide (0 < (nrm n d).d) && (decide (0 ≤ (nrm n d).n) && (decide ((nrm n d).n ≤ (nrm n d).d) && wit a f t (nrm n d)))
theorem okN_sm {n : Int} (h : okN n) : sm n := by unfold okN at h; unfold sm; omega
theorem okN_sub {a b : Int} (h : okN a) (h' : okN b) : sm (a - b) := by unfold okN at *; unfold sm; omega
theorem sm_neg {n : Int} (h : sm n) : sm (-n) := by unfold sm at *; omega
set_option maxRecDepth 100000 in
set_option maxHeartbeats 4000000 in
theorem thereC (a : Bd) (f t : Pt) (n d : Int) (ha : a.ok) (hf : f.ok) (ht : t.ok) (hn : sm n) (hd : sm d) (w : World) :
    RetB Tryz.prog 70 #[.agg #[.int .i64 a.lo.x, .int .i64 a.lo.y, .int .i64 a.lo.z, .int .i64 a.hi.x, .int .i64 a.hi.y, .int .i64 a.hi.z], .agg #[.int .i64 f.x, .int .i64 f.y, .int .i64 f.z], .agg #[.int .i64 t.x, .int .i64 t.y, .int .i64 t.z], .int .i64 n, .int .i64 d] w (.bool (thereS a f t n d)) := by
  have HA := Lib.hid ha; have HF := Lib.hid hf; have HT := Lib.hid ht
  have HNN := Lib.hid hn; have HDD := Lib.hid hd
  obtain ⟨n1, n2⟩ := hn; obtain ⟨d1, d2⟩ := hd
  clear ha hf ht
  unfold RetB
  go_enter Tryz.func70, Tryz.ntmps70
  go_upto_if 12 with fail
  go_cut [3, 4] (fun s3 s4 wx => s3 = .int .i64 (nrm n d).n ∧ s4 = .int .i64 (nrm n d).d ∧ Box wx w.heap.size [.int .i64 a.lo.x, .int .i64 a.lo.y, .int .i64 a.lo.z, .int .i64 a.hi.x, .int .i64 a.hi.y, .int .i64 a.hi.z] 38 ∧ Box wx (w.heap.size + 1) [.int .i64 f.x, .int .i64 f.y, .int .i64 f.z] 36 ∧ Box wx (w.heap.size + 1 + 1) [.int .i64 t.x, .int .i64 t.y, .int .i64 t.z] 36 ∧ Below w.heap.size w wx)
  case first =>
    have hA : Box (((w.alloc (.cells #[.int .i64 a.lo.x, .int .i64 a.lo.y, .int .i64 a.lo.z, .int .i64 a.hi.x, .int .i64 a.hi.y, .int .i64 a.hi.z] 38)).alloc (.cells #[.int .i64 f.x, .int .i64 f.y, .int .i64 f.z] 36)).alloc (.cells #[.int .i64 t.x, .int .i64 t.y, .int .i64 t.z] 36)) w.heap.size [.int .i64 a.lo.x, .int .i64 a.lo.y, .int .i64 a.lo.z, .int .i64 a.hi.x, .int .i64 a.hi.y, .int .i64 a.hi.z] 38 := ((Box.new rfl).alloc _).alloc _
    have hF : Box (((w.alloc (.cells #[.int .i64 a.lo.x, .int .i64 a.lo.y, .int .i64 a.lo.z, .int .i64 a.hi.x, .int .i64 a.hi.y, .int .i64 a.hi.z] 38)).alloc (.cells #[.int .i64 f.x, .int .i64 f.y, .int .i64 f.z] 36)).alloc (.cells #[.int .i64 t.x, .int .i64 t.y, .int .i64 t.z] 36)) (w.heap.size + 1) [.int .i64 f.x, .int .i64 f.y, .int .i64 f.z] 36 := (Box.new (by simp)).alloc _
    have hT : Box (((w.alloc (.cells #[.int .i64 a.lo.x, .int .i64 a.lo.y, .int .i64 a.lo.z, .int .i64 a.hi.x, .int .i64 a.hi.y, .int .i64 a.hi.z] 38)).alloc (.cells #[.int .i64 f.x, .int .i64 f.y, .int .i64 f.z] 36)).alloc (.cells #[.int .i64 t.x, .int .i64 t.y, .int .i64 t.z] 36)) (w.heap.size + 1 + 1) [.int .i64 t.x, .int .i64 t.y, .int .i64 t.z] 36 := (Box.new (by simp))
    have hW : Below w.heap.size w (((w.alloc (.cells #[.int .i64 a.lo.x, .int .i64 a.lo.y, .int .i64 a.lo.z, .int .i64 a.hi.x, .int .i64 a.hi.y, .int .i64 a.hi.z] 38)).alloc (.cells #[.int .i64 f.x, .int .i64 f.y, .int .i64 f.z] 36)).alloc (.cells #[.int .i64 t.x, .int .i64 t.y, .int .i64 t.z] 36)) := ((((Below.refl _ _).alloc (Nat.le_refl _) _).alloc (by simp) _).alloc (by simp; omega) _)
    by_cases h : d < 0
    · have e := Lib.hid (show nrm n d = ⟨-n, -d⟩ from if_pos h)
      go_wp2_with fail
      go_meet
      rw [e.out]
      exact ⟨rfl, rfl, hA, hF, hT, hW⟩
    · have e := Lib.hid (show nrm n d = ⟨n, d⟩ from if_neg h)
      go_wp2_with fail
      go_meet
      rw [e.out]
      exact ⟨rfl, rfl, hA, hF, hT, hW⟩
  case rest =>
    obtain ⟨rfl, rfl, hA, hF, hT, hW⟩ := hcut
    have HR := Lib.hid (show thereS a f t n d = (decide (0 < (nrm n d).d) && (decide (0 ≤ (nrm n d).n) && (decide ((nrm n d).n ≤ (nrm n d).d) && wit a f t (nrm n d)))) from rfl)
    have hq1 : sm (nrm n d).n := by
      unfold nrm; split
      · exact sm_neg HNN.out
      · exact HNN.out
    have hq2 : sm (nrm n d).d := by
      unfold nrm; split
      · exact sm_neg HDD.out
      · exact HDD.out
    generalize nrm n d = q at *
    have Q1 := Lib.hid hq1; have Q2 := Lib.hid hq2
    clear n1 n2 d1 d2 HNN HDD hq1 hq2
    by_cases h1 : 0 < q.d
    rotate_left
    · have HV := Lib.hid (show thereS a f t n d = false by rw [HR.out, decide_eq_false h1]; rfl)
      have g1 : decide (0 < q.d) = false := decide_eq_false h1
      clear h1
      go_wp2
      rw [HV.out]
      exact bodyPost_ret (v := .bool false) (by simp [results, Tryz.results70, go_sem]) rfl ⟨rfl, hW⟩
    have g1 : decide (0 < q.d) = true := decide_eq_true h1
    by_cases h2 : 0 ≤ q.n
    rotate_left
    · have HV := Lib.hid (show thereS a f t n d = false by rw [HR.out, decide_eq_false h2, Bool.false_and, Bool.and_false])
      have g2 : decide (0 ≤ q.n) = false := decide_eq_false h2
      clear h1 h2
      go_wp2
      rw [HV.out]
      exact bodyPost_ret (v := .bool false) (by simp [results, Tryz.results70, go_sem]) rfl ⟨rfl, hW⟩
    have g2 : decide (0 ≤ q.n) = true := decide_eq_true h2
    by_cases h3 : q.n ≤ q.d
    rotate_left
    · have HV := Lib.hid (show thereS a f t n d = false by rw [HR.out, decide_eq_false h3, Bool.false_and, Bool.and_false, Bool.and_false])
      have g3 : decide (q.n ≤ q.d) = false := decide_eq_false h3
      clear h1 h2 h3
      go_wp2
      rw [HV.out]
      exact bodyPost_ret (v := .bool false) (by simp [results, Tryz.results70, go_sem]) rfl ⟨rfl, hW⟩
    have g3 : decide (q.n ≤ q.d) = true := decide_eq_true h3
    have HV := Lib.hid (show thereS a f t n d = (within a.lo.x a.hi.x f.x t.x q.n q.d && (within a.lo.y a.hi.y f.y t.y q.n q.d && within a.lo.z a.hi.z f.z t.z q.n q.d)) by rw [HR.out, g1, g2, g3]; rfl)
    clear h1 h2 h3 HR
    have c1 := hA.lt; have c2 := hF.lt; have c3 := hT.lt
    have x0 := (hA).cell 0; have x1 := (hA).cell 1; have x2 := (hA).cell 2; have x3 := (hA).cell 3; have x4 := (hA).cell 4; have x5 := (hA).cell 5; have xf := (hA).free
    simp only [List.getElem?_cons_zero, List.getElem?_cons_succ] at x0 x1 x2 x3 x4 x5
    have y0 := (hF).cell 0; have y1 := (hF).cell 1; have y2 := (hF).cell 2; have yf := (hF).free
    simp only [List.getElem?_cons_zero, List.getElem?_cons_succ] at y0 y1 y2
    have z0 := (hT).cell 0; have z1 := (hT).cell 1; have z2 := (hT).cell 2; have zf := (hT).free
    simp only [List.getElem?_cons_zero, List.getElem?_cons_succ] at z0 z1 z2
    obtain ⟨⟨ax, ay, az⟩, ⟨bx, by', bz⟩, _⟩ := HA.out
    obtain ⟨fx, fy, fz⟩ := HF.out
    obtain ⟨tx, ty, tz⟩ := HT.out
    have A1 := Lib.hid (fun w => atW (okN_sm ax) (okN_sm bx) (okN_sm fx) (okN_sub tx fx) (okN_sm tx) Q1.out Q2.out w)
    have A2 := Lib.hid (fun w => atW (okN_sm ay) (okN_sm by') (okN_sm fy) (okN_sub ty fy) (okN_sm ty) Q1.out Q2.out w)
    have A3 := Lib.hid (fun w => atW (okN_sm az) (okN_sm bz) (okN_sm fz) (okN_sub tz fz) (okN_sm tz) Q1.out Q2.out w)
    clear ax ay az bx by' bz fx fy fz tx ty tz
    generalize within a.lo.x a.hi.x f.x t.x q.n q.d = r1 at *
    generalize within a.lo.y a.hi.y f.y t.y q.n q.d = r2 at *
    generalize within a.lo.z a.hi.z f.z t.z q.n q.d = r3 at *
    go_wp2_with fail
    refine (A1.out _).mono ?_
    rintro e w1 ⟨rfl, hS⟩
    have hA := hA.step hS; have hF := hF.step hS; have hT := hT.step hS; have hW := hW.trans (hS.mono hW.size)
    clear x0 x1 x2 x3 x4 x5 xf
    clear y0 y1 y2 yf
    clear z0 z1 z2 zf
    clear hS c1 c2 c3
    cases r1
    · go_wp2
      rw [HV.out]
      exact bodyPost_ret (v := .bool false) (by simp [results, Tryz.results70, go_sem]) rfl ⟨rfl, hW⟩
    have c1 := hA.lt; have c2 := hF.lt; have c3 := hT.lt
    have x0 := (hA).cell 0; have x1 := (hA).cell 1; have x2 := (hA).cell 2; have x3 := (hA).cell 3; have x4 := (hA).cell 4; have x5 := (hA).cell 5; have xf := (hA).free
    simp only [List.getElem?_cons_zero, List.getElem?_cons_succ] at x0 x1 x2 x3 x4 x5
    have y0 := (hF).cell 0; have y1 := (hF).cell 1; have y2 := (hF).cell 2; have yf := (hF).free
    simp only [List.getElem?_cons_zero, List.getElem?_cons_succ] at y0 y1 y2
    have z0 := (hT).cell 0; have z1 := (hT).cell 1; have z2 := (hT).cell 2; have zf := (hT).free
    simp only [List.getElem?_cons_zero, List.getElem?_cons_succ] at z0 z1 z2
    go_wp2_with fail
    refine (A2.out _).mono ?_
    rintro e w2 ⟨rfl, hS⟩
    have hA := hA.step hS; have hF := hF.step hS; have hT := hT.step hS; have hW := hW.trans (hS.mono hW.size)
    clear x0 x1 x2 x3 x4 x5 xf
    clear y0 y1 y2 yf
    clear z0 z1 z2 zf
    clear hS c1 c2 c3
    cases r2
    · go_wp2
      rw [HV.out]
      exact bodyPost_ret (v := .bool false) (by simp [results, Tryz.results70, go_sem]) rfl ⟨rfl, hW⟩
    have c1 := hA.lt; have c2 := hF.lt; have c3 := hT.lt
    have x0 := (hA).cell 0; have x1 := (hA).cell 1; have x2 := (hA).cell 2; have x3 := (hA).cell 3; have x4 := (hA).cell 4; have x5 := (hA).cell 5; have xf := (hA).free
    simp only [List.getElem?_cons_zero, List.getElem?_cons_succ] at x0 x1 x2 x3 x4 x5
    have y0 := (hF).cell 0; have y1 := (hF).cell 1; have y2 := (hF).cell 2; have yf := (hF).free
    simp only [List.getElem?_cons_zero, List.getElem?_cons_succ] at y0 y1 y2
    have z0 := (hT).cell 0; have z1 := (hT).cell 1; have z2 := (hT).cell 2; have zf := (hT).free
    simp only [List.getElem?_cons_zero, List.getElem?_cons_succ] at z0 z1 z2
    go_wp2_with fail
    refine (A3.out _).mono ?_
    rintro e w3 ⟨rfl, hS⟩
    have hW := hW.trans (hS.mono hW.size)
    go_wp2
    rw [HV.out]
    exact bodyPost_ret (v := .bool r3) (by simp [results, Tryz.results70, go_sem]) rfl ⟨rfl, hW⟩
/-- What the document holds against the sides. -/
def rhitS (a : Bd) (f t : Pt) : Bool :=
  inS a f || (thereS a f t (a.lo.x - f.x) (t.x - f.x) || (thereS a f t (a.hi.x - f.x) (t.x - f.x) || (thereS a f t (a.lo.y - f.y) (t.y - f.y) || (thereS a f t (a.hi.y - f.y) (t.y - f.y) ||
    (thereS a f t (a.lo.z - f.z) (t.z - f.z) || thereS a f t (a.hi.z - f.z) (t.z - f.z))))))
theorem cf49 (args : Array Value) (w1 : World) : (callFunc 49 args).run Tryz.prog w1 = .ok (.enter 49 args) w1 := enters Tryz.func49 (by kernel_rfl) (by kernel_rfl) args w1
set_option maxRecDepth 100000 in
set_option maxHeartbeats 2000000 in
theorem rhitN (a : Bd) (f t : Pt) (h : ¬ (a.ok ∧ f.ok ∧ t.ok)) (w : World) : RetB Tryz.prog 49 #[.agg #[.int .i64 a.lo.x, .int .i64 a.lo.y, .int .i64 a.lo.z, .int .i64 a.hi.x, .int .i64 a.hi.y, .int .i64 a.hi.z], .agg #[.int .i64 f.x, .int .i64 f.y, .int .i64 f.z], .agg #[.int .i64 t.x, .int .i64 t.y, .int .i64 t.z]] w (.bool false) := by
  unfold RetB
  by_cases ha : a.ok
  · by_cases hf : f.ok
    · have ht : ¬ t.ok := fun ht => h ⟨ha, hf, ht⟩
      clear h
      go_enter Tryz.func49, Tryz.ntmps49
      go_wp2_with fail
      refine (rbd_ok a _ ha).mono ?_
      rintro e w1 ⟨rfl, hS⟩
      have hA : Box w1 w.heap.size [.int .i64 a.lo.x, .int .i64 a.lo.y, .int .i64 a.lo.z, .int .i64 a.hi.x, .int .i64 a.hi.y, .int .i64 a.hi.z] 38 := (((Box.new rfl).alloc _).alloc _).step hS
      have hF : Box w1 (w.heap.size + 1) [.int .i64 f.x, .int .i64 f.y, .int .i64 f.z] 36 := ((Box.new (by simp)).alloc _).step hS
      have hT : Box w1 (w.heap.size + 1 + 1) [.int .i64 t.x, .int .i64 t.y, .int .i64 t.z] 36 := (Box.new (by simp)).step hS
      have hW : Below w.heap.size w w1 := (((((Below.refl _ _).alloc (Nat.le_refl _) _).alloc (by simp) _).alloc (by simp; omega) _)).trans (hS.mono (by simp; omega))
      clear hS
      have p0 := (hF).cell 0; have p1 := (hF).cell 1; have p2 := (hF).cell 2; have pf := (hF).free
      simp only [List.getElem?_cons_zero, List.getElem?_cons_succ] at p0 p1 p2
      go_wp2_with fail
      refine (rpt_ok f _ hf).mono ?_
      rintro e w2 ⟨rfl, hS⟩
      have hT := hT.step hS
      have hW := hW.trans (hS.mono hW.size)
      clear p0 p1 p2 pf
      have q0 := (hT).cell 0; have q1 := (hT).cell 1; have q2 := (hT).cell 2; have qf := (hT).free
      simp only [List.getElem?_cons_zero, List.getElem?_cons_succ] at q0 q1 q2
      clear hF hA hS
      go_wp2_with fail
      refine (rpt_no t _ ht).mono ?_
      rintro e w3 ⟨rfl, hS⟩
      have hW := hW.trans (hS.mono hW.size)
      go_wp2
      exact bodyPost_ret (v := .bool false) (by simp [results, Tryz.results49, go_sem]) rfl ⟨rfl, hW⟩
    · clear h
      go_enter Tryz.func49, Tryz.ntmps49
      go_wp2_with fail
      refine (rbd_ok a _ ha).mono ?_
      rintro e w1 ⟨rfl, hS⟩
      have hA : Box w1 w.heap.size [.int .i64 a.lo.x, .int .i64 a.lo.y, .int .i64 a.lo.z, .int .i64 a.hi.x, .int .i64 a.hi.y, .int .i64 a.hi.z] 38 := (((Box.new rfl).alloc _).alloc _).step hS
      have hF : Box w1 (w.heap.size + 1) [.int .i64 f.x, .int .i64 f.y, .int .i64 f.z] 36 := ((Box.new (by simp)).alloc _).step hS
      have hT : Box w1 (w.heap.size + 1 + 1) [.int .i64 t.x, .int .i64 t.y, .int .i64 t.z] 36 := (Box.new (by simp)).step hS
      have hW : Below w.heap.size w w1 := (((((Below.refl _ _).alloc (Nat.le_refl _) _).alloc (by simp) _).alloc (by simp; omega) _)).trans (hS.mono (by simp; omega))
      clear hS
      have p0 := (hF).cell 0; have p1 := (hF).cell 1; have p2 := (hF).cell 2; have pf := (hF).free
      simp only [List.getElem?_cons_zero, List.getElem?_cons_succ] at p0 p1 p2
      clear hF hA hT
      go_wp2_with fail
      refine (rpt_no f _ hf).mono ?_
      rintro e w2 ⟨rfl, hS⟩
      have hW := hW.trans (hS.mono hW.size)
      go_wp2
      exact bodyPost_ret (v := .bool false) (by simp [results, Tryz.results49, go_sem]) rfl ⟨rfl, hW⟩
  · clear h
    go_enter Tryz.func49, Tryz.ntmps49
    go_wp2_with fail
    refine (rbd_no a _ ha).mono ?_
    rintro e w1 ⟨rfl, hS⟩
    have hA : Box w1 w.heap.size [.int .i64 a.lo.x, .int .i64 a.lo.y, .int .i64 a.lo.z, .int .i64 a.hi.x, .int .i64 a.hi.y, .int .i64 a.hi.z] 38 := (((Box.new rfl).alloc _).alloc _).step hS
    have hF : Box w1 (w.heap.size + 1) [.int .i64 f.x, .int .i64 f.y, .int .i64 f.z] 36 := ((Box.new (by simp)).alloc _).step hS
    have hT : Box w1 (w.heap.size + 1 + 1) [.int .i64 t.x, .int .i64 t.y, .int .i64 t.z] 36 := (Box.new (by simp)).step hS
    have hW : Below w.heap.size w w1 := (((((Below.refl _ _).alloc (Nat.le_refl _) _).alloc (by simp) _).alloc (by simp; omega) _)).trans (hS.mono (by simp; omega))
    clear hS
    clear hF hA hT
    go_wp2
    exact bodyPost_ret (v := .bool false) (by simp [results, Tryz.results49, go_sem]) rfl ⟨rfl, hW⟩
set_option maxRecDepth 100000 in
set_option maxHeartbeats 8000000 in
theorem rhitY (a : Bd) (f t : Pt) (ha : a.ok) (hf : f.ok) (ht : t.ok) (w : World) : RetB Tryz.prog 49 #[.agg #[.int .i64 a.lo.x, .int .i64 a.lo.y, .int .i64 a.lo.z, .int .i64 a.hi.x, .int .i64 a.hi.y, .int .i64 a.hi.z], .agg #[.int .i64 f.x, .int .i64 f.y, .int .i64 f.z], .agg #[.int .i64 t.x, .int .i64 t.y, .int .i64 t.z]] w (.bool (rhitS a f t)) := by
  have HA := Lib.hid ha; have HF := Lib.hid hf; have HT := Lib.hid ht
  obtain ⟨⟨ax, ay, az⟩, ⟨bx, by', bz⟩, _⟩ := ha
  obtain ⟨fx, fy, fz⟩ := hf
  obtain ⟨tx, ty, tz⟩ := ht
  have T1 := Lib.hid (fun w => thereC a f t (a.lo.x - f.x) (t.x - f.x) HA.out HF.out HT.out (okN_sub ax fx) (okN_sub tx fx) w)
  have T2 := Lib.hid (fun w => thereC a f t (a.hi.x - f.x) (t.x - f.x) HA.out HF.out HT.out (okN_sub bx fx) (okN_sub tx fx) w)
  have T3 := Lib.hid (fun w => thereC a f t (a.lo.y - f.y) (t.y - f.y) HA.out HF.out HT.out (okN_sub ay fy) (okN_sub ty fy) w)
  have T4 := Lib.hid (fun w => thereC a f t (a.hi.y - f.y) (t.y - f.y) HA.out HF.out HT.out (okN_sub by' fy) (okN_sub ty fy) w)
  have T5 := Lib.hid (fun w => thereC a f t (a.lo.z - f.z) (t.z - f.z) HA.out HF.out HT.out (okN_sub az fz) (okN_sub tz fz) w)
  have T6 := Lib.hid (fun w => thereC a f t (a.hi.z - f.z) (t.z - f.z) HA.out HF.out HT.out (okN_sub bz fz) (okN_sub tz fz) w)
  have hr1 : IntKind.i64.wrap (t.x - f.x) = t.x - f.x := IntWalk.i64_in _ (by unfold okN at *; omega)
  have hr2 : IntKind.i64.wrap (t.y - f.y) = t.y - f.y := IntWalk.i64_in _ (by unfold okN at *; omega)
  have hr3 : IntKind.i64.wrap (t.z - f.z) = t.z - f.z := IntWalk.i64_in _ (by unfold okN at *; omega)
  have hr4 : IntKind.i64.wrap (a.lo.x - f.x) = a.lo.x - f.x := IntWalk.i64_in _ (by unfold okN at *; omega)
  have hr5 : IntKind.i64.wrap (a.hi.x - f.x) = a.hi.x - f.x := IntWalk.i64_in _ (by unfold okN at *; omega)
  have hr6 : IntKind.i64.wrap (a.lo.y - f.y) = a.lo.y - f.y := IntWalk.i64_in _ (by unfold okN at *; omega)
  have hr7 : IntKind.i64.wrap (a.hi.y - f.y) = a.hi.y - f.y := IntWalk.i64_in _ (by unfold okN at *; omega)
  have hr8 : IntKind.i64.wrap (a.lo.z - f.z) = a.lo.z - f.z := IntWalk.i64_in _ (by unfold okN at *; omega)
  have hr9 : IntKind.i64.wrap (a.hi.z - f.z) = a.hi.z - f.z := IntWalk.i64_in _ (by unfold okN at *; omega)
  have HR := Lib.hid (show rhitS a f t = (inS a f || (thereS a f t (a.lo.x - f.x) (t.x - f.x) || (thereS a f t (a.hi.x - f.x) (t.x - f.x) || (thereS a f t (a.lo.y - f.y) (t.y - f.y) || (thereS a f t (a.hi.y - f.y) (t.y - f.y) ||
    (thereS a f t (a.lo.z - f.z) (t.z - f.z) || thereS a f t (a.hi.z - f.z) (t.z - f.z))))))) from rfl)
  clear ax ay az bx by' bz fx fy fz tx ty tz
  have HW := Lib.hid (And.intro hr1 (And.intro hr2 (And.intro hr3 (And.intro hr4 (And.intro hr5 (And.intro hr6 (And.intro hr7 (And.intro hr8 hr9))))))))
  clear hr1 hr2 hr3 hr4 hr5 hr6 hr7 hr8 hr9
  unfold RetB
  go_enter Tryz.func49, Tryz.ntmps49
  go_wp2_with fail
  refine (rbd_ok a _ HA.out).mono ?_
  rintro e w1 ⟨rfl, hS⟩
  have hA : Box w1 w.heap.size [.int .i64 a.lo.x, .int .i64 a.lo.y, .int .i64 a.lo.z, .int .i64 a.hi.x, .int .i64 a.hi.y, .int .i64 a.hi.z] 38 := (((Box.new rfl).alloc _).alloc _).step hS
  have hF : Box w1 (w.heap.size + 1) [.int .i64 f.x, .int .i64 f.y, .int .i64 f.z] 36 := ((Box.new (by simp)).alloc _).step hS
  have hT : Box w1 (w.heap.size + 1 + 1) [.int .i64 t.x, .int .i64 t.y, .int .i64 t.z] 36 := (Box.new (by simp)).step hS
  have hW : Below w.heap.size w w1 := (((((Below.refl _ _).alloc (Nat.le_refl _) _).alloc (by simp) _).alloc (by simp; omega) _)).trans (hS.mono (by simp; omega))
  clear hS
  have p0 := (hF).cell 0; have p1 := (hF).cell 1; have p2 := (hF).cell 2; have pf := (hF).free
  simp only [List.getElem?_cons_zero, List.getElem?_cons_succ] at p0 p1 p2
  go_wp2_with fail
  refine (rpt_ok f _ HF.out).mono ?_
  rintro e w2 ⟨rfl, hS⟩
  have hA := hA.step hS; have hF := hF.step hS; have hT := hT.step hS; have hW := hW.trans (hS.mono hW.size)
  clear p0 p1 p2 pf
  have q0 := (hT).cell 0; have q1 := (hT).cell 1; have q2 := (hT).cell 2; have qf := (hT).free
  simp only [List.getElem?_cons_zero, List.getElem?_cons_succ] at q0 q1 q2
  clear hS
  go_wp2_with fail
  refine (rpt_ok t _ HT.out).mono ?_
  rintro e w3 ⟨rfl, hS⟩
  have hA := hA.step hS; have hF := hF.step hS; have hT := hT.step hS; have hW := hW.trans (hS.mono hW.size)
  clear q0 q1 q2 qf
  clear hS
  have c1 := hA.lt; have c2 := hF.lt; have c3 := hT.lt
  have x0 := (hA).cell 0; have x1 := (hA).cell 1; have x2 := (hA).cell 2; have x3 := (hA).cell 3; have x4 := (hA).cell 4; have x5 := (hA).cell 5; have xf := (hA).free
  simp only [List.getElem?_cons_zero, List.getElem?_cons_succ] at x0 x1 x2 x3 x4 x5
  have y0 := (hF).cell 0; have y1 := (hF).cell 1; have y2 := (hF).cell 2; have yf := (hF).free
  simp only [List.getElem?_cons_zero, List.getElem?_cons_succ] at y0 y1 y2
  have z0 := (hT).cell 0; have z1 := (hT).cell 1; have z2 := (hT).cell 2; have zf := (hT).free
  simp only [List.getElem?_cons_zero, List.getElem?_cons_succ] at z0 z1 z2
  obtain ⟨r1, r2, r3, r4, r5, r6, r7, r8, r9⟩ := HW.out
  go_wp2
  refine wp_region_ph [(18, .free [])] (by kernel_rfl) (by kernel_rfl) ?_
  refine Ph.belowd ?_
  simp only [List.drop_succ_cons, List.drop_zero, List.take_succ_cons, List.take_zero, Nat.reduceSub, Nat.sub_zero]
  iterate 18 (refine SeqO.val (v := ?_) (by rfl) (by rfl) (fun w1 hS => ?_) ?_; rotate_left; (· obtain ⟨hc, hcf⟩ := bcell hS; go_simp; try with_reducible rfl); simp only [Act.put, List.setIfInBounds_toArray, List.set_cons_zero, List.set_cons_succ])
  refine SeqO.nil0 fun w5 hS => ?_
  refine Ph.last ?_
  simp only [List.drop_succ_cons, List.drop_zero, List.take_succ_cons, List.take_zero, Nat.reduceSub, Nat.sub_zero]
  have hA := hA.step hS; have hF := hF.step hS; have hT := hT.step hS; have hW := hW.trans (hS.mono hW.size)
  clear x0 x1 x2 x3 x4 x5 xf
  clear y0 y1 y2 yf
  clear z0 z1 z2 zf
  clear hS
  clear c1 c2 c3
  have x0 := (hA).cell 0; have x1 := (hA).cell 1; have x2 := (hA).cell 2; have x3 := (hA).cell 3; have x4 := (hA).cell 4; have x5 := (hA).cell 5; have xf := (hA).free
  simp only [List.getElem?_cons_zero, List.getElem?_cons_succ] at x0 x1 x2 x3 x4 x5
  have y0 := (hF).cell 0; have y1 := (hF).cell 1; have y2 := (hF).cell 2; have yf := (hF).free
  simp only [List.getElem?_cons_zero, List.getElem?_cons_succ] at y0 y1 y2
  have z0 := (hT).cell 0; have z1 := (hT).cell 1; have z2 := (hT).cell 2; have zf := (hT).free
  simp only [List.getElem?_cons_zero, List.getElem?_cons_succ] at z0 z1 z2
  go_upto_region 4 with fail
  refine wp_region_lit ?_
  conv => arg 4; simp only [List.append]
  iterate 2 (with_reducible refine wpL_val (v := ?_) ?_ ?_ ?_; rotate_left; (· kernel_rfl); (· go_simp; try with_reducible rfl); conv => arg 5; simp only [Act.put, List.setIfInBounds_toArray, List.set_cons_zero, List.set_cons_succ])
  with_reducible refine wpL_call (ca := ?_) (args := ?_) ?_ ?_ cf66 ?_ ?_
  rotate_left 2
  · kernel_rfl
  · rfl
  · simp [Act.eval] <;> rfl
  refine (rinC a f _).mono ?_
  rintro e v0 ⟨rfl, hS⟩
  refine ⟨_, rfl, ?_⟩
  conv => arg 5; simp only [Act.put, List.setIfInBounds_toArray, List.set_cons_zero, List.set_cons_succ]
  have hA := hA.step hS; have hF := hF.step hS; have hT := hT.step hS; have hW := hW.trans (hS.mono hW.size)
  clear x0 x1 x2 x3 x4 x5 xf
  clear y0 y1 y2 yf
  clear z0 z1 z2 zf
  clear hS
  generalize inS a f = b0 at *
  cases b0
  rotate_left
  · as_aux_lemma =>
    iterate 1 (with_reducible refine wpL_val (v := ?_) ?_ ?_ ?_; rotate_left; (· kernel_rfl); (· go_simp; try with_reducible rfl); conv => arg 5; simp only [Act.put, List.setIfInBounds_toArray, List.set_cons_zero, List.set_cons_succ])
    iterate 11 (with_reducible refine wpL_skip ?_ ?_; (· kernel_rfl); conv => arg 5; simp only [Act.put, List.setIfInBounds_toArray, List.set_cons_zero, List.set_cons_succ])
    iterate 2 (with_reducible refine wpL_val (v := ?_) ?_ ?_ ?_; rotate_left; (· kernel_rfl); (· go_simp; try with_reducible rfl); conv => arg 5; simp only [Act.put, List.setIfInBounds_toArray, List.set_cons_zero, List.set_cons_succ])
    iterate 11 (with_reducible refine wpL_skip ?_ ?_; (· kernel_rfl); conv => arg 5; simp only [Act.put, List.setIfInBounds_toArray, List.set_cons_zero, List.set_cons_succ])
    iterate 2 (with_reducible refine wpL_val (v := ?_) ?_ ?_ ?_; rotate_left; (· kernel_rfl); (· go_simp; try with_reducible rfl); conv => arg 5; simp only [Act.put, List.setIfInBounds_toArray, List.set_cons_zero, List.set_cons_succ])
    iterate 11 (with_reducible refine wpL_skip ?_ ?_; (· kernel_rfl); conv => arg 5; simp only [Act.put, List.setIfInBounds_toArray, List.set_cons_zero, List.set_cons_succ])
    iterate 2 (with_reducible refine wpL_val (v := ?_) ?_ ?_ ?_; rotate_left; (· kernel_rfl); (· go_simp; try with_reducible rfl); conv => arg 5; simp only [Act.put, List.setIfInBounds_toArray, List.set_cons_zero, List.set_cons_succ])
    iterate 11 (with_reducible refine wpL_skip ?_ ?_; (· kernel_rfl); conv => arg 5; simp only [Act.put, List.setIfInBounds_toArray, List.set_cons_zero, List.set_cons_succ])
    iterate 2 (with_reducible refine wpL_val (v := ?_) ?_ ?_ ?_; rotate_left; (· kernel_rfl); (· go_simp; try with_reducible rfl); conv => arg 5; simp only [Act.put, List.setIfInBounds_toArray, List.set_cons_zero, List.set_cons_succ])
    iterate 11 (with_reducible refine wpL_skip ?_ ?_; (· kernel_rfl); conv => arg 5; simp only [Act.put, List.setIfInBounds_toArray, List.set_cons_zero, List.set_cons_succ])
    iterate 2 (with_reducible refine wpL_val (v := ?_) ?_ ?_ ?_; rotate_left; (· kernel_rfl); (· go_simp; try with_reducible rfl); conv => arg 5; simp only [Act.put, List.setIfInBounds_toArray, List.set_cons_zero, List.set_cons_succ])
    iterate 11 (with_reducible refine wpL_skip ?_ ?_; (· kernel_rfl); conv => arg 5; simp only [Act.put, List.setIfInBounds_toArray, List.set_cons_zero, List.set_cons_succ])
    iterate 2 (with_reducible refine wpL_val (v := ?_) ?_ ?_ ?_; rotate_left; (· kernel_rfl); (· go_simp; try with_reducible rfl); conv => arg 5; simp only [Act.put, List.setIfInBounds_toArray, List.set_cons_zero, List.set_cons_succ])
    refine wpList_nil ?_
    go_wp2
    rw [HR.out]
    exact bodyPost_ret (v := .bool true) (by simp [results, Tryz.results49, go_sem]) rfl ⟨rfl, hW⟩
  iterate 1 (with_reducible refine wpL_val (v := ?_) ?_ ?_ ?_; rotate_left; (· kernel_rfl); (· go_simp; try with_reducible rfl); conv => arg 5; simp only [Act.put, List.setIfInBounds_toArray, List.set_cons_zero, List.set_cons_succ])
  have x0 := (hA).cell 0; have x1 := (hA).cell 1; have x2 := (hA).cell 2; have x3 := (hA).cell 3; have x4 := (hA).cell 4; have x5 := (hA).cell 5; have xf := (hA).free
  simp only [List.getElem?_cons_zero, List.getElem?_cons_succ] at x0 x1 x2 x3 x4 x5
  have y0 := (hF).cell 0; have y1 := (hF).cell 1; have y2 := (hF).cell 2; have yf := (hF).free
  simp only [List.getElem?_cons_zero, List.getElem?_cons_succ] at y0 y1 y2
  have z0 := (hT).cell 0; have z1 := (hT).cell 1; have z2 := (hT).cell 2; have zf := (hT).free
  simp only [List.getElem?_cons_zero, List.getElem?_cons_succ] at z0 z1 z2
  iterate 10 (with_reducible refine wpL_val (v := ?_) ?_ ?_ ?_; rotate_left; (· kernel_rfl); (· go_simp; try with_reducible rfl); conv => arg 5; simp only [Act.put, List.setIfInBounds_toArray, List.set_cons_zero, List.set_cons_succ])
  with_reducible refine wpL_call (ca := ?_) (args := ?_) ?_ ?_ cf70 ?_ ?_
  rotate_left 2
  · kernel_rfl
  · rfl
  · simp [Act.eval] <;> rfl
  refine (T1.out _).mono ?_
  rintro e v1 ⟨rfl, hS⟩
  refine ⟨_, rfl, ?_⟩
  conv => arg 5; simp only [Act.put, List.setIfInBounds_toArray, List.set_cons_zero, List.set_cons_succ]
  have hA := hA.step hS; have hF := hF.step hS; have hT := hT.step hS; have hW := hW.trans (hS.mono hW.size)
  clear x0 x1 x2 x3 x4 x5 xf
  clear y0 y1 y2 yf
  clear z0 z1 z2 zf
  clear hS
  generalize thereS a f t (a.lo.x - f.x) (t.x - f.x) = b1 at *
  cases b1
  rotate_left
  · as_aux_lemma =>
    iterate 2 (with_reducible refine wpL_val (v := ?_) ?_ ?_ ?_; rotate_left; (· kernel_rfl); (· go_simp; try with_reducible rfl); conv => arg 5; simp only [Act.put, List.setIfInBounds_toArray, List.set_cons_zero, List.set_cons_succ])
    iterate 11 (with_reducible refine wpL_skip ?_ ?_; (· kernel_rfl); conv => arg 5; simp only [Act.put, List.setIfInBounds_toArray, List.set_cons_zero, List.set_cons_succ])
    iterate 2 (with_reducible refine wpL_val (v := ?_) ?_ ?_ ?_; rotate_left; (· kernel_rfl); (· go_simp; try with_reducible rfl); conv => arg 5; simp only [Act.put, List.setIfInBounds_toArray, List.set_cons_zero, List.set_cons_succ])
    iterate 11 (with_reducible refine wpL_skip ?_ ?_; (· kernel_rfl); conv => arg 5; simp only [Act.put, List.setIfInBounds_toArray, List.set_cons_zero, List.set_cons_succ])
    iterate 2 (with_reducible refine wpL_val (v := ?_) ?_ ?_ ?_; rotate_left; (· kernel_rfl); (· go_simp; try with_reducible rfl); conv => arg 5; simp only [Act.put, List.setIfInBounds_toArray, List.set_cons_zero, List.set_cons_succ])
    iterate 11 (with_reducible refine wpL_skip ?_ ?_; (· kernel_rfl); conv => arg 5; simp only [Act.put, List.setIfInBounds_toArray, List.set_cons_zero, List.set_cons_succ])
    iterate 2 (with_reducible refine wpL_val (v := ?_) ?_ ?_ ?_; rotate_left; (· kernel_rfl); (· go_simp; try with_reducible rfl); conv => arg 5; simp only [Act.put, List.setIfInBounds_toArray, List.set_cons_zero, List.set_cons_succ])
    iterate 11 (with_reducible refine wpL_skip ?_ ?_; (· kernel_rfl); conv => arg 5; simp only [Act.put, List.setIfInBounds_toArray, List.set_cons_zero, List.set_cons_succ])
    iterate 2 (with_reducible refine wpL_val (v := ?_) ?_ ?_ ?_; rotate_left; (· kernel_rfl); (· go_simp; try with_reducible rfl); conv => arg 5; simp only [Act.put, List.setIfInBounds_toArray, List.set_cons_zero, List.set_cons_succ])
    iterate 11 (with_reducible refine wpL_skip ?_ ?_; (· kernel_rfl); conv => arg 5; simp only [Act.put, List.setIfInBounds_toArray, List.set_cons_zero, List.set_cons_succ])
    iterate 2 (with_reducible refine wpL_val (v := ?_) ?_ ?_ ?_; rotate_left; (· kernel_rfl); (· go_simp; try with_reducible rfl); conv => arg 5; simp only [Act.put, List.setIfInBounds_toArray, List.set_cons_zero, List.set_cons_succ])
    refine wpList_nil ?_
    go_wp2
    rw [HR.out]
    exact bodyPost_ret (v := .bool true) (by simp [results, Tryz.results49, go_sem]) rfl ⟨rfl, hW⟩
  iterate 2 (with_reducible refine wpL_val (v := ?_) ?_ ?_ ?_; rotate_left; (· kernel_rfl); (· go_simp; try with_reducible rfl); conv => arg 5; simp only [Act.put, List.setIfInBounds_toArray, List.set_cons_zero, List.set_cons_succ])
  have x0 := (hA).cell 0; have x1 := (hA).cell 1; have x2 := (hA).cell 2; have x3 := (hA).cell 3; have x4 := (hA).cell 4; have x5 := (hA).cell 5; have xf := (hA).free
  simp only [List.getElem?_cons_zero, List.getElem?_cons_succ] at x0 x1 x2 x3 x4 x5
  have y0 := (hF).cell 0; have y1 := (hF).cell 1; have y2 := (hF).cell 2; have yf := (hF).free
  simp only [List.getElem?_cons_zero, List.getElem?_cons_succ] at y0 y1 y2
  have z0 := (hT).cell 0; have z1 := (hT).cell 1; have z2 := (hT).cell 2; have zf := (hT).free
  simp only [List.getElem?_cons_zero, List.getElem?_cons_succ] at z0 z1 z2
  iterate 10 (with_reducible refine wpL_val (v := ?_) ?_ ?_ ?_; rotate_left; (· kernel_rfl); (· go_simp; try with_reducible rfl); conv => arg 5; simp only [Act.put, List.setIfInBounds_toArray, List.set_cons_zero, List.set_cons_succ])
  with_reducible refine wpL_call (ca := ?_) (args := ?_) ?_ ?_ cf70 ?_ ?_
  rotate_left 2
  · kernel_rfl
  · rfl
  · simp [Act.eval] <;> rfl
  refine (T2.out _).mono ?_
  rintro e v2 ⟨rfl, hS⟩
  refine ⟨_, rfl, ?_⟩
  conv => arg 5; simp only [Act.put, List.setIfInBounds_toArray, List.set_cons_zero, List.set_cons_succ]
  have hA := hA.step hS; have hF := hF.step hS; have hT := hT.step hS; have hW := hW.trans (hS.mono hW.size)
  clear x0 x1 x2 x3 x4 x5 xf
  clear y0 y1 y2 yf
  clear z0 z1 z2 zf
  clear hS
  generalize thereS a f t (a.hi.x - f.x) (t.x - f.x) = b2 at *
  cases b2
  rotate_left
  · as_aux_lemma =>
    iterate 2 (with_reducible refine wpL_val (v := ?_) ?_ ?_ ?_; rotate_left; (· kernel_rfl); (· go_simp; try with_reducible rfl); conv => arg 5; simp only [Act.put, List.setIfInBounds_toArray, List.set_cons_zero, List.set_cons_succ])
    iterate 11 (with_reducible refine wpL_skip ?_ ?_; (· kernel_rfl); conv => arg 5; simp only [Act.put, List.setIfInBounds_toArray, List.set_cons_zero, List.set_cons_succ])
    iterate 2 (with_reducible refine wpL_val (v := ?_) ?_ ?_ ?_; rotate_left; (· kernel_rfl); (· go_simp; try with_reducible rfl); conv => arg 5; simp only [Act.put, List.setIfInBounds_toArray, List.set_cons_zero, List.set_cons_succ])
    iterate 11 (with_reducible refine wpL_skip ?_ ?_; (· kernel_rfl); conv => arg 5; simp only [Act.put, List.setIfInBounds_toArray, List.set_cons_zero, List.set_cons_succ])
    iterate 2 (with_reducible refine wpL_val (v := ?_) ?_ ?_ ?_; rotate_left; (· kernel_rfl); (· go_simp; try with_reducible rfl); conv => arg 5; simp only [Act.put, List.setIfInBounds_toArray, List.set_cons_zero, List.set_cons_succ])
    iterate 11 (with_reducible refine wpL_skip ?_ ?_; (· kernel_rfl); conv => arg 5; simp only [Act.put, List.setIfInBounds_toArray, List.set_cons_zero, List.set_cons_succ])
    iterate 2 (with_reducible refine wpL_val (v := ?_) ?_ ?_ ?_; rotate_left; (· kernel_rfl); (· go_simp; try with_reducible rfl); conv => arg 5; simp only [Act.put, List.setIfInBounds_toArray, List.set_cons_zero, List.set_cons_succ])
    iterate 11 (with_reducible refine wpL_skip ?_ ?_; (· kernel_rfl); conv => arg 5; simp only [Act.put, List.setIfInBounds_toArray, List.set_cons_zero, List.set_cons_succ])
    iterate 2 (with_reducible refine wpL_val (v := ?_) ?_ ?_ ?_; rotate_left; (· kernel_rfl); (· go_simp; try with_reducible rfl); conv => arg 5; simp only [Act.put, List.setIfInBounds_toArray, List.set_cons_zero, List.set_cons_succ])
    refine wpList_nil ?_
    go_wp2
    rw [HR.out]
    exact bodyPost_ret (v := .bool true) (by simp [results, Tryz.results49, go_sem]) rfl ⟨rfl, hW⟩
  iterate 2 (with_reducible refine wpL_val (v := ?_) ?_ ?_ ?_; rotate_left; (· kernel_rfl); (· go_simp; try with_reducible rfl); conv => arg 5; simp only [Act.put, List.setIfInBounds_toArray, List.set_cons_zero, List.set_cons_succ])
  have x0 := (hA).cell 0; have x1 := (hA).cell 1; have x2 := (hA).cell 2; have x3 := (hA).cell 3; have x4 := (hA).cell 4; have x5 := (hA).cell 5; have xf := (hA).free
  simp only [List.getElem?_cons_zero, List.getElem?_cons_succ] at x0 x1 x2 x3 x4 x5
  have y0 := (hF).cell 0; have y1 := (hF).cell 1; have y2 := (hF).cell 2; have yf := (hF).free
  simp only [List.getElem?_cons_zero, List.getElem?_cons_succ] at y0 y1 y2
  have z0 := (hT).cell 0; have z1 := (hT).cell 1; have z2 := (hT).cell 2; have zf := (hT).free
  simp only [List.getElem?_cons_zero, List.getElem?_cons_succ] at z0 z1 z2
  iterate 10 (with_reducible refine wpL_val (v := ?_) ?_ ?_ ?_; rotate_left; (· kernel_rfl); (· go_simp; try with_reducible rfl); conv => arg 5; simp only [Act.put, List.setIfInBounds_toArray, List.set_cons_zero, List.set_cons_succ])
  with_reducible refine wpL_call (ca := ?_) (args := ?_) ?_ ?_ cf70 ?_ ?_
  rotate_left 2
  · kernel_rfl
  · rfl
  · simp [Act.eval] <;> rfl
  refine (T3.out _).mono ?_
  rintro e v3 ⟨rfl, hS⟩
  refine ⟨_, rfl, ?_⟩
  conv => arg 5; simp only [Act.put, List.setIfInBounds_toArray, List.set_cons_zero, List.set_cons_succ]
  have hA := hA.step hS; have hF := hF.step hS; have hT := hT.step hS; have hW := hW.trans (hS.mono hW.size)
  clear x0 x1 x2 x3 x4 x5 xf
  clear y0 y1 y2 yf
  clear z0 z1 z2 zf
  clear hS
  generalize thereS a f t (a.lo.y - f.y) (t.y - f.y) = b3 at *
  cases b3
  rotate_left
  · as_aux_lemma =>
    iterate 2 (with_reducible refine wpL_val (v := ?_) ?_ ?_ ?_; rotate_left; (· kernel_rfl); (· go_simp; try with_reducible rfl); conv => arg 5; simp only [Act.put, List.setIfInBounds_toArray, List.set_cons_zero, List.set_cons_succ])
    iterate 11 (with_reducible refine wpL_skip ?_ ?_; (· kernel_rfl); conv => arg 5; simp only [Act.put, List.setIfInBounds_toArray, List.set_cons_zero, List.set_cons_succ])
    iterate 2 (with_reducible refine wpL_val (v := ?_) ?_ ?_ ?_; rotate_left; (· kernel_rfl); (· go_simp; try with_reducible rfl); conv => arg 5; simp only [Act.put, List.setIfInBounds_toArray, List.set_cons_zero, List.set_cons_succ])
    iterate 11 (with_reducible refine wpL_skip ?_ ?_; (· kernel_rfl); conv => arg 5; simp only [Act.put, List.setIfInBounds_toArray, List.set_cons_zero, List.set_cons_succ])
    iterate 2 (with_reducible refine wpL_val (v := ?_) ?_ ?_ ?_; rotate_left; (· kernel_rfl); (· go_simp; try with_reducible rfl); conv => arg 5; simp only [Act.put, List.setIfInBounds_toArray, List.set_cons_zero, List.set_cons_succ])
    iterate 11 (with_reducible refine wpL_skip ?_ ?_; (· kernel_rfl); conv => arg 5; simp only [Act.put, List.setIfInBounds_toArray, List.set_cons_zero, List.set_cons_succ])
    iterate 2 (with_reducible refine wpL_val (v := ?_) ?_ ?_ ?_; rotate_left; (· kernel_rfl); (· go_simp; try with_reducible rfl); conv => arg 5; simp only [Act.put, List.setIfInBounds_toArray, List.set_cons_zero, List.set_cons_succ])
    refine wpList_nil ?_
    go_wp2
    rw [HR.out]
    exact bodyPost_ret (v := .bool true) (by simp [results, Tryz.results49, go_sem]) rfl ⟨rfl, hW⟩
  iterate 2 (with_reducible refine wpL_val (v := ?_) ?_ ?_ ?_; rotate_left; (· kernel_rfl); (· go_simp; try with_reducible rfl); conv => arg 5; simp only [Act.put, List.setIfInBounds_toArray, List.set_cons_zero, List.set_cons_succ])
  have x0 := (hA).cell 0; have x1 := (hA).cell 1; have x2 := (hA).cell 2; have x3 := (hA).cell 3; have x4 := (hA).cell 4; have x5 := (hA).cell 5; have xf := (hA).free
  simp only [List.getElem?_cons_zero, List.getElem?_cons_succ] at x0 x1 x2 x3 x4 x5
  have y0 := (hF).cell 0; have y1 := (hF).cell 1; have y2 := (hF).cell 2; have yf := (hF).free
  simp only [List.getElem?_cons_zero, List.getElem?_cons_succ] at y0 y1 y2
  have z0 := (hT).cell 0; have z1 := (hT).cell 1; have z2 := (hT).cell 2; have zf := (hT).free
  simp only [List.getElem?_cons_zero, List.getElem?_cons_succ] at z0 z1 z2
  iterate 10 (with_reducible refine wpL_val (v := ?_) ?_ ?_ ?_; rotate_left; (· kernel_rfl); (· go_simp; try with_reducible rfl); conv => arg 5; simp only [Act.put, List.setIfInBounds_toArray, List.set_cons_zero, List.set_cons_succ])
  with_reducible refine wpL_call (ca := ?_) (args := ?_) ?_ ?_ cf70 ?_ ?_
  rotate_left 2
  · kernel_rfl
  · rfl
  · simp [Act.eval] <;> rfl
  refine (T4.out _).mono ?_
  rintro e v4 ⟨rfl, hS⟩
  refine ⟨_, rfl, ?_⟩
  conv => arg 5; simp only [Act.put, List.setIfInBounds_toArray, List.set_cons_zero, List.set_cons_succ]
  have hA := hA.step hS; have hF := hF.step hS; have hT := hT.step hS; have hW := hW.trans (hS.mono hW.size)
  clear x0 x1 x2 x3 x4 x5 xf
  clear y0 y1 y2 yf
  clear z0 z1 z2 zf
  clear hS
  generalize thereS a f t (a.hi.y - f.y) (t.y - f.y) = b4 at *
  cases b4
  rotate_left
  · as_aux_lemma =>
    iterate 2 (with_reducible refine wpL_val (v := ?_) ?_ ?_ ?_; rotate_left; (· kernel_rfl); (· go_simp; try with_reducible rfl); conv => arg 5; simp only [Act.put, List.setIfInBounds_toArray, List.set_cons_zero, List.set_cons_succ])
    iterate 11 (with_reducible refine wpL_skip ?_ ?_; (· kernel_rfl); conv => arg 5; simp only [Act.put, List.setIfInBounds_toArray, List.set_cons_zero, List.set_cons_succ])
    iterate 2 (with_reducible refine wpL_val (v := ?_) ?_ ?_ ?_; rotate_left; (· kernel_rfl); (· go_simp; try with_reducible rfl); conv => arg 5; simp only [Act.put, List.setIfInBounds_toArray, List.set_cons_zero, List.set_cons_succ])
    iterate 11 (with_reducible refine wpL_skip ?_ ?_; (· kernel_rfl); conv => arg 5; simp only [Act.put, List.setIfInBounds_toArray, List.set_cons_zero, List.set_cons_succ])
    iterate 2 (with_reducible refine wpL_val (v := ?_) ?_ ?_ ?_; rotate_left; (· kernel_rfl); (· go_simp; try with_reducible rfl); conv => arg 5; simp only [Act.put, List.setIfInBounds_toArray, List.set_cons_zero, List.set_cons_succ])
    refine wpList_nil ?_
    go_wp2
    rw [HR.out]
    exact bodyPost_ret (v := .bool true) (by simp [results, Tryz.results49, go_sem]) rfl ⟨rfl, hW⟩
  iterate 2 (with_reducible refine wpL_val (v := ?_) ?_ ?_ ?_; rotate_left; (· kernel_rfl); (· go_simp; try with_reducible rfl); conv => arg 5; simp only [Act.put, List.setIfInBounds_toArray, List.set_cons_zero, List.set_cons_succ])
  have x0 := (hA).cell 0; have x1 := (hA).cell 1; have x2 := (hA).cell 2; have x3 := (hA).cell 3; have x4 := (hA).cell 4; have x5 := (hA).cell 5; have xf := (hA).free
  simp only [List.getElem?_cons_zero, List.getElem?_cons_succ] at x0 x1 x2 x3 x4 x5
  have y0 := (hF).cell 0; have y1 := (hF).cell 1; have y2 := (hF).cell 2; have yf := (hF).free
  simp only [List.getElem?_cons_zero, List.getElem?_cons_succ] at y0 y1 y2
  have z0 := (hT).cell 0; have z1 := (hT).cell 1; have z2 := (hT).cell 2; have zf := (hT).free
  simp only [List.getElem?_cons_zero, List.getElem?_cons_succ] at z0 z1 z2
  iterate 10 (with_reducible refine wpL_val (v := ?_) ?_ ?_ ?_; rotate_left; (· kernel_rfl); (· go_simp; try with_reducible rfl); conv => arg 5; simp only [Act.put, List.setIfInBounds_toArray, List.set_cons_zero, List.set_cons_succ])
  with_reducible refine wpL_call (ca := ?_) (args := ?_) ?_ ?_ cf70 ?_ ?_
  rotate_left 2
  · kernel_rfl
  · rfl
  · simp [Act.eval] <;> rfl
  refine (T5.out _).mono ?_
  rintro e v5 ⟨rfl, hS⟩
  refine ⟨_, rfl, ?_⟩
  conv => arg 5; simp only [Act.put, List.setIfInBounds_toArray, List.set_cons_zero, List.set_cons_succ]
  have hA := hA.step hS; have hF := hF.step hS; have hT := hT.step hS; have hW := hW.trans (hS.mono hW.size)
  clear x0 x1 x2 x3 x4 x5 xf
  clear y0 y1 y2 yf
  clear z0 z1 z2 zf
  clear hS
  generalize thereS a f t (a.lo.z - f.z) (t.z - f.z) = b5 at *
  cases b5
  rotate_left
  · as_aux_lemma =>
    iterate 2 (with_reducible refine wpL_val (v := ?_) ?_ ?_ ?_; rotate_left; (· kernel_rfl); (· go_simp; try with_reducible rfl); conv => arg 5; simp only [Act.put, List.setIfInBounds_toArray, List.set_cons_zero, List.set_cons_succ])
    iterate 11 (with_reducible refine wpL_skip ?_ ?_; (· kernel_rfl); conv => arg 5; simp only [Act.put, List.setIfInBounds_toArray, List.set_cons_zero, List.set_cons_succ])
    iterate 2 (with_reducible refine wpL_val (v := ?_) ?_ ?_ ?_; rotate_left; (· kernel_rfl); (· go_simp; try with_reducible rfl); conv => arg 5; simp only [Act.put, List.setIfInBounds_toArray, List.set_cons_zero, List.set_cons_succ])
    refine wpList_nil ?_
    go_wp2
    rw [HR.out]
    exact bodyPost_ret (v := .bool true) (by simp [results, Tryz.results49, go_sem]) rfl ⟨rfl, hW⟩
  iterate 2 (with_reducible refine wpL_val (v := ?_) ?_ ?_ ?_; rotate_left; (· kernel_rfl); (· go_simp; try with_reducible rfl); conv => arg 5; simp only [Act.put, List.setIfInBounds_toArray, List.set_cons_zero, List.set_cons_succ])
  have x0 := (hA).cell 0; have x1 := (hA).cell 1; have x2 := (hA).cell 2; have x3 := (hA).cell 3; have x4 := (hA).cell 4; have x5 := (hA).cell 5; have xf := (hA).free
  simp only [List.getElem?_cons_zero, List.getElem?_cons_succ] at x0 x1 x2 x3 x4 x5
  have y0 := (hF).cell 0; have y1 := (hF).cell 1; have y2 := (hF).cell 2; have yf := (hF).free
  simp only [List.getElem?_cons_zero, List.getElem?_cons_succ] at y0 y1 y2
  have z0 := (hT).cell 0; have z1 := (hT).cell 1; have z2 := (hT).cell 2; have zf := (hT).free
  simp only [List.getElem?_cons_zero, List.getElem?_cons_succ] at z0 z1 z2
  iterate 10 (with_reducible refine wpL_val (v := ?_) ?_ ?_ ?_; rotate_left; (· kernel_rfl); (· go_simp; try with_reducible rfl); conv => arg 5; simp only [Act.put, List.setIfInBounds_toArray, List.set_cons_zero, List.set_cons_succ])
  with_reducible refine wpL_call (ca := ?_) (args := ?_) ?_ ?_ cf70 ?_ ?_
  rotate_left 2
  · kernel_rfl
  · rfl
  · simp [Act.eval] <;> rfl
  refine (T6.out _).mono ?_
  rintro e v6 ⟨rfl, hS⟩
  refine ⟨_, rfl, ?_⟩
  conv => arg 5; simp only [Act.put, List.setIfInBounds_toArray, List.set_cons_zero, List.set_cons_succ]
  have hA := hA.step hS; have hF := hF.step hS; have hT := hT.step hS; have hW := hW.trans (hS.mono hW.size)
  clear x0 x1 x2 x3 x4 x5 xf
  clear y0 y1 y2 yf
  clear z0 z1 z2 zf
  clear hS
  generalize thereS a f t (a.hi.z - f.z) (t.z - f.z) = b6 at *
  iterate 2 (with_reducible refine wpL_val (v := ?_) ?_ ?_ ?_; rotate_left; (· kernel_rfl); (· go_simp; try with_reducible rfl); conv => arg 5; simp only [Act.put, List.setIfInBounds_toArray, List.set_cons_zero, List.set_cons_succ])
  refine wpList_nil ?_
  go_wp2
  rw [HR.out]
  exact bodyPost_ret (v := .bool b6) (by simp [results, Tryz.results49, go_sem]) rfl ⟨rfl, hW⟩
theorem within_iff {lo hi f t : Int} {q : Fr} : within lo hi f t q.n q.d = true ↔ slab lo hi f t q := by
  unfold within slab
  rw [Bool.and_eq_true, decide_eq_true_eq, decide_eq_true_eq]
theorem wit_iff {a : Bd} {f t : Pt} {q : Fr} : wit a f t q = true ↔ slabs a f t 3 q := by
  unfold wit
  rw [Bool.and_eq_true, Bool.and_eq_true, within_iff, within_iff, within_iff]
  constructor
  · rintro ⟨h1, h2, h3⟩ j hj
    rcases j with _ | _ | _ | j
    · exact h1
    · exact h2
    · exact h3
    · omega
  · intro h
    exact ⟨h 0 (by omega), h 1 (by omega), h 2 (by omega)⟩
theorem there_iff {a : Bd} {f t : Pt} {n d : Int} : thereS a f t n d = true ↔ unit (nrm n d) ∧ slabs a f t 3 (nrm n d) := by
  unfold thereS unit
  rw [Bool.and_eq_true, Bool.and_eq_true, Bool.and_eq_true, decide_eq_true_eq, decide_eq_true_eq, decide_eq_true_eq, wit_iff]
  exact ⟨fun ⟨h1, h2, h3, h4⟩ => ⟨⟨h1, h2, h3⟩, h4⟩, fun ⟨⟨h1, h2, h3⟩, h4⟩ => ⟨h1, h2, h3, h4⟩⟩
theorem first_nrm (lo hi f t : Int) : hfirst lo hi f t = nrm (lo - f) (t - f) ∨ hfirst lo hi f t = nrm (hi - f) (t - f) := by
  unfold hfirst nrm
  by_cases h : t - f < 0
  · right; rw [if_pos h, if_pos h]; congr 1; omega
  · left; rw [if_neg h, if_neg h]
theorem rhit_eq {a : Bd} {f t : Pt} (ha : a.ok) (hf : f.ok) (ht : t.ok) : rhitS a f t = hitS a f t := by
  rw [Bool.eq_iff_iff]
  unfold rhitS
  simp only [Bool.or_eq_true, there_iff, inS_iff]
  constructor
  · intro h
    refine hit_iff.2 ⟨ha, hf, ht, ?_⟩
    rcases h with h | h | h | h | h | h | h
    · exact ⟨⟨0, 1⟩, ⟨by decide, by decide, by decide⟩, slabs_zero.2 h⟩
    all_goals exact ⟨_, h.1, h.2⟩
  · intro h
    rcases hit_first h with h | ⟨j, hj, hn, h1, h2⟩
    · exact .inl (slabs_zero.1 h)
    · rcases first_nrm (ax a.lo j) (ax a.hi j) (ax f j) (ax t j) with e | e <;> rw [e] at h1 h2
      · rcases j with _ | _ | _ | j
        · exact .inr (.inl ⟨h1, h2⟩)
        · exact .inr (.inr (.inr (.inl ⟨h1, h2⟩)))
        · exact .inr (.inr (.inr (.inr (.inr (.inl ⟨h1, h2⟩)))))
        · omega
      · rcases j with _ | _ | _ | j
        · exact .inr (.inr (.inl ⟨h1, h2⟩))
        · exact .inr (.inr (.inr (.inr (.inl ⟨h1, h2⟩))))
        · exact .inr (.inr (.inr (.inr (.inr (.inr ⟨h1, h2⟩)))))
        · omega
theorem rhitC (a : Bd) (f t : Pt) (w : World) : RetB Tryz.prog 49 #[.agg #[.int .i64 a.lo.x, .int .i64 a.lo.y, .int .i64 a.lo.z, .int .i64 a.hi.x, .int .i64 a.hi.y, .int .i64 a.hi.z], .agg #[.int .i64 f.x, .int .i64 f.y, .int .i64 f.z], .agg #[.int .i64 t.x, .int .i64 t.y, .int .i64 t.z]] w (.bool (hitS a f t)) := by
  by_cases h : a.ok ∧ f.ok ∧ t.ok
  · rw [← rhit_eq h.1 h.2.1 h.2.2]
    exact rhitY a f t h.1 h.2.1 h.2.2 w
  · rw [hit_no h]; exact rhitN a f t h w
end RHit
end Go.Proofs.YtbcjnckejkjfeaaGreat
