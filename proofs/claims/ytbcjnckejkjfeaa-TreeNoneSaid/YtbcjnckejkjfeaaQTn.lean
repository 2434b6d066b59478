/- To whom a way comes: Way, its walk. Condition: the tree is there. A tree that is not there, or that nobody made: the walks of all calls. No condition. A tree that is not there, or that nobody made: the law's walk. Condition: the number is one. A tree that is not there, or that nobody made, answers ErrNil, and tells nothing. No condition. -/
import Derived.Test.YtbcjnckejkjfeaaQTb
import Derived.Test.YtbcjnckejkjfeaaLaw3
namespace Go.Proofs.Ytbcjnckejkjfeaa
set_option linter.unusedVariables false
set_option linter.unusedSimpArgs false
open Go.RowKit Go.NP
namespace TWy
open TrP TrW TrC TrA TrF TrG TrX TrY TrK THg TCt QVl TrE TrI TAs TFp TFd TSr TMe
theorem cf42 (args : Array Value) (w1 : World) : (callFunc 42 args).run Try.prog w1 = .ok (.enter 42 args) w1 := enters Try.func42 (by kernel_rfl) (by kernel_rfl) args w1
theorem hitC (a : Bd) (f t : Pt) (w : World) : RetB Try.prog 43 #[.agg #[.int .i64 a.lo.x, .int .i64 a.lo.y, .int .i64 a.lo.z, .int .i64 a.hi.x, .int .i64 a.hi.y, .int .i64 a.hi.z], .agg #[.int .i64 f.x, .int .i64 f.y, .int .i64 f.z], .agg #[.int .i64 t.x, .int .i64 t.y, .int .i64 t.z]] w (.bool (hitS a f t)) := by
  by_cases h : a.ok ∧ f.ok ∧ t.ok
  · exact hitY a f t h.1 h.2.1 h.2.2 w
  · rw [hit_no h]; exact hitN a f t h w
theorem gcheckV (p : Pt) (w : World) : RetB Try.prog 30 #[.agg #[.int .i64 p.x, .int .i64 p.y, .int .i64 p.z]] w (.int .i64 (errIf p.ok)) := by
  by_cases h : p.ok
  · rw [errIf_pos h]; exact gcheck_ok p w h
  · rw [errIf_neg h]; exact gcheck_no p w h
set_option maxRecDepth 100000 in
set_option maxHeartbeats 2000000 in
theorem m2C {g1 g2 : Nat} {f t : Pt} (b : Bd) (u : World) (h : Box u g1 [.int .i64 f.x, .int .i64 f.y, .int .i64 f.z] 33) (h' : Box u g2 [.int .i64 t.x, .int .i64 t.y, .int .i64 t.z] 33) : RetB Try.prog 42 #[.agg #[.int .i64 b.lo.x, .int .i64 b.lo.y, .int .i64 b.lo.z, .int .i64 b.hi.x, .int .i64 b.hi.y, .int .i64 b.hi.z], .pointer (some ⟨g1, 0, none⟩), .pointer (some ⟨g2, 0, none⟩)] u (.bool (hitS b f t)) := by
  have hb : Below u.heap.size u (u.alloc (.cells #[.int .i64 b.lo.x, .int .i64 b.lo.y, .int .i64 b.lo.z, .int .i64 b.hi.x, .int .i64 b.hi.y, .int .i64 b.hi.z] 35)) := (Below.refl _ _).alloc (Nat.le_refl _) _
  have H1 := Lib.hid (h.step hb); have H3 := Lib.hid (h'.step hb)
  have H2 := Lib.hid (show Box (u.alloc (.cells #[.int .i64 b.lo.x, .int .i64 b.lo.y, .int .i64 b.lo.z, .int .i64 b.hi.x, .int .i64 b.hi.y, .int .i64 b.hi.z] 35)) u.heap.size [.int .i64 b.lo.x, .int .i64 b.lo.y, .int .i64 b.lo.z, .int .i64 b.hi.x, .int .i64 b.hi.y, .int .i64 b.hi.z] 35 from Box.new rfl)
  clear h h'
  unfold RetB
  go_enter Try.func42, Try.ntmps42
  go_wp2_with (first | (refine wpL_load (l := [.int .i64 b.lo.x, .int .i64 b.lo.y, .int .i64 b.lo.z, .int .i64 b.hi.x, .int .i64 b.hi.y, .int .i64 b.hi.z]) (by rfl) (by rfl) H2.out Try.underlying35 (by rfl) (by kernel_rfl) (by kernel_rfl) ?_; (conv => arg 5; simp only [Act.put, List.setIfInBounds_toArray, List.set_cons_zero, List.set_cons_succ])) | (refine wpL_load (l := [.int .i64 f.x, .int .i64 f.y, .int .i64 f.z]) (by rfl) (by rfl) H1.out Try.underlying33 (by rfl) (by kernel_rfl) (by kernel_rfl) ?_; (conv => arg 5; simp only [Act.put, List.setIfInBounds_toArray, List.set_cons_zero, List.set_cons_succ])) | (refine wpL_load (l := [.int .i64 t.x, .int .i64 t.y, .int .i64 t.z]) (by rfl) (by rfl) H3.out Try.underlying33 (by rfl) (by kernel_rfl) (by kernel_rfl) ?_; (conv => arg 5; simp only [Act.put, List.setIfInBounds_toArray, List.set_cons_zero, List.set_cons_succ])))
  refine (hitC b f t _).mono ?_
  rintro e w1 ⟨rfl, hS⟩
  go_wp2_with fail
  exact bodyPost_ret (v := .bool (hitS b f t)) (by simp [results, Try.results42, go_sem, *]) rfl ⟨rfl, hb.trans (hS.mono hb.size)⟩
/-- The numbers to whose bounds a way comes. -/
def wayL (L : List En) (f t : Pt) : List Int := tell (fun b => hitS b f t) L
theorem wayL_no {L : List En} {f t : Pt} (h : ¬ (f.ok ∧ t.ok)) : wayL L f t = [] := by
  unfold wayL tell
  rw [List.filter_eq_nil_iff.2]; · rfl
  intro e _ hm
  have h2 : hitS e.b f t = true := hm
  rw [hit_no fun q => h q.2] at h2
  cases h2
set_option maxRecDepth 100000 in
set_option maxHeartbeats 4000000 in
theorem wayC {p K : Nat} {mg : Int} {f t : Pt} {L : List En} {S : Nat → Prop} (w : World) (h : TI w p mg L S K) (hK : K < 80000) :
    Calls Try.prog 21 #[.pointer (some ⟨p, 0, none⟩), .agg #[.int .i64 f.x, .int .i64 f.y, .int .i64 f.z], .agg #[.int .i64 t.x, .int .i64 t.y, .int .i64 t.z]] w fun e w' => (∃ v, e = .returned (.tuple #[v, .int .i64 (errIf (f.ok ∧ t.ok))]) ∧ OwnV w' w.heap.size 3 v (iv (wayL L f t))) ∧ Below w.heap.size w w' := by
  have hb1 : Below w.heap.size w (w.alloc (.cells #[.int .i64 f.x, .int .i64 f.y, .int .i64 f.z] 33)) := (Below.refl _ _).alloc (Nat.le_refl _) _
  have hb : Below w.heap.size w ((w.alloc (.cells #[.int .i64 f.x, .int .i64 f.y, .int .i64 f.z] 33)).alloc (.cells #[.int .i64 t.x, .int .i64 t.y, .int .i64 t.z] 33)) := hb1.alloc (by simp) _
  have h1 : Box ((w.alloc (.cells #[.int .i64 f.x, .int .i64 f.y, .int .i64 f.z] 33)).alloc (.cells #[.int .i64 t.x, .int .i64 t.y, .int .i64 t.z] 33)) w.heap.size [.int .i64 f.x, .int .i64 f.y, .int .i64 f.z] 33 := (Box.new rfl).alloc _
  have h2 : Box ((w.alloc (.cells #[.int .i64 f.x, .int .i64 f.y, .int .i64 f.z] 33)).alloc (.cells #[.int .i64 t.x, .int .i64 t.y, .int .i64 t.z] 33)) (w.heap.size + 1) [.int .i64 t.x, .int .i64 t.y, .int .i64 t.z] 33 := Box.new (by simp)
  have hti := h.step hb
  have hm : ((w.alloc (.cells #[.int .i64 f.x, .int .i64 f.y, .int .i64 f.z] 33)).alloc (.cells #[.int .i64 t.x, .int .i64 t.y, .int .i64 t.z] 33)).cell? ⟨p, 0, none⟩ = some (.bool true) ∧ p < ((w.alloc (.cells #[.int .i64 f.x, .int .i64 f.y, .int .i64 f.z] 33)).alloc (.cells #[.int .i64 t.x, .int .i64 t.y, .int .i64 t.z] 33)).heap.size := by
    obtain ⟨T, F, al, lv, b, c, pl, h0, rfl⟩ := hti
    have := TO.madec h0.ts.tx.to; rw [h0.p_] at this; exact ⟨this, h0.lt⟩
  have AS := Lib.hid (askedC (n := 1) (x := bzero) _ hm.1 hm.2)
  have e1 : askS 1 bzero = 0 := by decide
  rw [e1] at AS
  have H1 := Lib.hid h1; have H2 := Lib.hid h2; have HTI := Lib.hid hti; have HBE := Lib.hid hb
  clear h h1 h2 hti hm hb hb1
  obtain ⟨er, her⟩ : ∃ er, errIf (f.ok ∧ t.ok) = er := ⟨_, rfl⟩
  obtain ⟨ws, hws⟩ : ∃ ws, wayL L f t = ws := ⟨_, rfl⟩
  rw [her, hws]
  go_enter Try.func21, Try.ntmps21
  go_wp2_with fail
  refine AS.out.mono ?_
  rintro e w1 ⟨rfl, hS⟩
  have h1 := H1.out.step hS
  have h2 := H2.out.step hS
  have hti := HTI.out.step hS
  have HW := Lib.hid (HBE.out.trans (hS.mono HBE.out.size))
  clear AS H1 H2 HTI HBE hS
  have H1 := Lib.hid h1; have H2 := Lib.hid h2; have HTI := Lib.hid hti
  clear h1 h2 hti
  by_cases hf : f.ok
  · by_cases ht : t.ok
    · obtain rfl : er = 0 := by rw [← her, errIf_pos ⟨hf, ht⟩]
      go_wp2_with (refine wpL_load (l := [.int .i64 f.x, .int .i64 f.y, .int .i64 f.z]) (by rfl) (by rfl) H1.out Try.underlying33 (by rfl) (by kernel_rfl) (by kernel_rfl) ?_; (conv => arg 5; simp only [Act.put, List.setIfInBounds_toArray, List.set_cons_zero, List.set_cons_succ]))
      refine Calls.mono (gcheck_ok f w1 hf) ?_
      rintro e w2 ⟨rfl, hS2⟩
      have H2b := Lib.hid (H2.out.step hS2)
      go_wp2_with (refine wpL_load (l := [.int .i64 t.x, .int .i64 t.y, .int .i64 t.z]) (by rfl) (by rfl) H2b.out Try.underlying33 (by rfl) (by kernel_rfl) (by kernel_rfl) ?_; (conv => arg 5; simp only [Act.put, List.setIfInBounds_toArray, List.set_cons_zero, List.set_cons_succ]))
      refine Calls.mono (gcheck_ok t w2 ht) ?_
      rintro e w3 ⟨rfl, hS3⟩
      have g1 := (H1.out.step hS2).step hS3
      have g2 := H2b.out.step hS3
      have gt := (HTI.out.step hS2).step hS3
      have HW3 := Lib.hid ((HW.out.trans (hS2.mono HW.out.size)).trans (hS3.mono (by have := HW.out.size; have := hS2.size; omega)))
      clear H1 H2 HTI HW H2b hS2 hS3
      go_wp2_with fail
      refine (findTI (q := fun b => hitS b f t) (fid := 42) (ca := #[.pointer (some ⟨w.heap.size, 0, none⟩), .pointer (some ⟨w.heap.size + 1, 0, none⟩)]) w3 gt hK (fun F b q1 q2 => hit_more q1 q2) cf42 (fun b u hu => m2C b u (g1.step hu) (g2.step hu))).mono ?_
      rintro e w4 ⟨⟨v, rfl, hv⟩, hS4⟩
      have FIN := Lib.hid (show (∃ v_1, Ending.returned (.tuple #[v, .int .i64 0]) = .returned (.tuple #[v_1, .int .i64 0]) ∧ OwnV w4 w.heap.size 3 v_1 (iv ws)) ∧ Below w.heap.size w w4 from ⟨⟨v, rfl, by rw [← hws]; exact hv.mono HW3.out.size⟩, HW3.out.trans (hS4.mono HW3.out.size)⟩)
      clear hv hS4 HW3 g1 g2 gt
      go_wp2_with fail
      exact bodyPost_ret (v := .tuple #[v, .int .i64 0]) (by simp [results, Try.results21, go_sem]) rfl FIN.out
    · obtain rfl : er = 7 := by rw [← her, errIf_neg fun q => ht q.2]
      obtain rfl : ws = [] := by rw [← hws, wayL_no fun q => ht q.2]
      go_wp2_with (refine wpL_load (l := [.int .i64 f.x, .int .i64 f.y, .int .i64 f.z]) (by rfl) (by rfl) H1.out Try.underlying33 (by rfl) (by kernel_rfl) (by kernel_rfl) ?_; (conv => arg 5; simp only [Act.put, List.setIfInBounds_toArray, List.set_cons_zero, List.set_cons_succ]))
      refine Calls.mono (gcheck_ok f w1 hf) ?_
      rintro e w2 ⟨rfl, hS2⟩
      have H2b := Lib.hid (H2.out.step hS2)
      go_wp2_with (refine wpL_load (l := [.int .i64 t.x, .int .i64 t.y, .int .i64 t.z]) (by rfl) (by rfl) H2b.out Try.underlying33 (by rfl) (by kernel_rfl) (by kernel_rfl) ?_; (conv => arg 5; simp only [Act.put, List.setIfInBounds_toArray, List.set_cons_zero, List.set_cons_succ]))
      refine Calls.mono (gcheck_no t w2 ht) ?_
      rintro e w3 ⟨rfl, hS3⟩
      go_wp2_with fail
      exact bodyPost_ret (v := .tuple #[.slice none 0 0, .int .i64 7]) (by simp [results, Try.results21, go_sem]) rfl ⟨⟨.slice none 0 0, rfl, OwnV.nil _ _ _⟩, (HW.out.trans (hS2.mono HW.out.size)).trans (hS3.mono (by have := HW.out.size; have := hS2.size; omega))⟩
  · obtain rfl : er = 7 := by rw [← her, errIf_neg fun q => hf q.1]
    obtain rfl : ws = [] := by rw [← hws, wayL_no fun q => hf q.1]
    go_wp2_with (refine wpL_load (l := [.int .i64 f.x, .int .i64 f.y, .int .i64 f.z]) (by rfl) (by rfl) H1.out Try.underlying33 (by rfl) (by kernel_rfl) (by kernel_rfl) ?_; (conv => arg 5; simp only [Act.put, List.setIfInBounds_toArray, List.set_cons_zero, List.set_cons_succ]))
    refine Calls.mono (gcheck_no f w1 hf) ?_
    rintro e w2 ⟨rfl, hS2⟩
    go_wp2_with fail
    exact bodyPost_ret (v := .tuple #[.slice none 0 0, .int .i64 7]) (by simp [results, Try.results21, go_sem]) rfl ⟨⟨.slice none 0 0, rfl, OwnV.nil _ _ _⟩, HW.out.trans (hS2.mono HW.out.size)⟩
end TWy
end Go.Proofs.Ytbcjnckejkjfeaa
namespace Go.Proofs.Ytbcjnckejkjfeaa
set_option linter.unusedVariables false
set_option linter.unusedSimpArgs false
open Go.RowKit Go.NP
namespace TNl
open TrW TrI TAs TPu QVm TPp TMe TWy
/-- A tree that is not there, or that nobody made. -/
def Unmade (w : World) (v : Value) : Prop := v = .pointer none ∨ ∃ p, v = .pointer (some ⟨p, 0, none⟩) ∧ Box w p [.bool false, .int .i64 0, .slice none 0 0, .slice none 0 0, .int .i64 0, .map none] 58
theorem Unmade.step {w w' : World} {v : Value} (h : Unmade w v) (hS : Below w.heap.size w w') : Unmade w' v := by
  rcases h with h | ⟨p, h, hb⟩
  · exact .inl h
  · exact .inr ⟨p, h, hb.step hS⟩
theorem askedN {v : Value} {n : Int} {x : Bd} (w : World) (h : Unmade w v) : RetB Try.prog 27 #[v, .int .i64 n, .agg #[.int .i64 x.lo.x, .int .i64 x.lo.y, .int .i64 x.lo.z, .int .i64 x.hi.x, .int .i64 x.hi.y, .int .i64 x.hi.z]] w (.int .i64 1) := by
  rcases h with rfl | ⟨p, rfl, hb⟩
  · exact askedNil w
  · exact askedUn w (by rw [hb.cell]; rfl) hb.lt
set_option maxRecDepth 100000 in
set_option maxHeartbeats 2000000 in
theorem putN {v : Value} {n : Int} {x : Bd} (w : World) (h : Unmade w v) : RetB Try.prog 19 #[v, .int .i64 n, .agg #[.int .i64 x.lo.x, .int .i64 x.lo.y, .int .i64 x.lo.z, .int .i64 x.hi.x, .int .i64 x.hi.y, .int .i64 x.hi.z]] w (.int .i64 1) := by
  have hb : Below w.heap.size w (w.alloc (.cells #[.int .i64 x.lo.x, .int .i64 x.lo.y, .int .i64 x.lo.z, .int .i64 x.hi.x, .int .i64 x.hi.y, .int .i64 x.hi.z] 35)) := (Below.refl _ _).alloc (Nat.le_refl _) _
  have AS := Lib.hid (askedN (n := n) (x := x) _ (h.step hb))
  clear h
  unfold RetB
  go_enter Try.func19, Try.ntmps19
  go_wp2_with fail
  refine AS.out.mono ?_
  rintro e1 w1 ⟨rfl, hS⟩
  go_wp2_with fail
  exact bodyPost_ret (v := .int .i64 1) (by simp [results, Try.results19, go_sem]) rfl ⟨rfl, hb.trans (hS.mono hb.size)⟩
set_option maxRecDepth 100000 in
set_option maxHeartbeats 2000000 in
theorem setN {v : Value} {n : Int} {x : Bd} (w : World) (h : Unmade w v) : RetB Try.prog 20 #[v, .int .i64 n, .agg #[.int .i64 x.lo.x, .int .i64 x.lo.y, .int .i64 x.lo.z, .int .i64 x.hi.x, .int .i64 x.hi.y, .int .i64 x.hi.z]] w (.tuple #[.bool false, .int .i64 1]) := by
  have hb : Below w.heap.size w (w.alloc (.cells #[.int .i64 x.lo.x, .int .i64 x.lo.y, .int .i64 x.lo.z, .int .i64 x.hi.x, .int .i64 x.hi.y, .int .i64 x.hi.z] 35)) := (Below.refl _ _).alloc (Nat.le_refl _) _
  have AS := Lib.hid (askedN (n := n) (x := x) _ (h.step hb))
  clear h
  unfold RetB
  go_enter Try.func20, Try.ntmps20
  go_wp2_with fail
  refine AS.out.mono ?_
  rintro e1 w1 ⟨rfl, hS⟩
  go_wp2_with fail
  exact bodyPost_ret (v := .tuple #[.bool false, .int .i64 1]) (by simp [results, Try.results20, go_sem]) rfl ⟨rfl, hb.trans (hS.mono hb.size)⟩
set_option maxRecDepth 100000 in
set_option maxHeartbeats 2000000 in
theorem dropN {v : Value} {n : Int} (w : World) (h : Unmade w v) : RetB Try.prog 16 #[v, .int .i64 n] w (.int .i64 1) := by
  have AS := Lib.hid (askedN (n := n) (x := bzero) _ h)
  clear h
  unfold RetB
  go_enter Try.func16, Try.ntmps16
  go_wp2_with fail
  refine AS.out.mono ?_
  rintro e1 w1 ⟨rfl, hS⟩
  go_wp2_with fail
  exact bodyPost_ret (v := .int .i64 1) (by simp [results, Try.results16, go_sem]) rfl ⟨rfl, hS⟩
set_option maxRecDepth 100000 in
set_option maxHeartbeats 2000000 in
theorem meetN {v : Value} {x : Bd} (w : World) (h : Unmade w v) : RetB Try.prog 11 #[v, .agg #[.int .i64 x.lo.x, .int .i64 x.lo.y, .int .i64 x.lo.z, .int .i64 x.hi.x, .int .i64 x.hi.y, .int .i64 x.hi.z]] w (.tuple #[.slice none 0 0, .int .i64 1]) := by
  have hb : Below w.heap.size w (w.alloc (.cells #[.int .i64 x.lo.x, .int .i64 x.lo.y, .int .i64 x.lo.z, .int .i64 x.hi.x, .int .i64 x.hi.y, .int .i64 x.hi.z] 35)) := (Below.refl _ _).alloc (Nat.le_refl _) _
  have HB := Lib.hid (show Box (w.alloc (.cells #[.int .i64 x.lo.x, .int .i64 x.lo.y, .int .i64 x.lo.z, .int .i64 x.hi.x, .int .i64 x.hi.y, .int .i64 x.hi.z] 35)) w.heap.size [.int .i64 x.lo.x, .int .i64 x.lo.y, .int .i64 x.lo.z, .int .i64 x.hi.x, .int .i64 x.hi.y, .int .i64 x.hi.z] 35 from Box.new rfl)
  have AS := Lib.hid (askedN (n := 1) (x := x) _ (h.step hb))
  clear h
  unfold RetB
  go_enter Try.func11, Try.ntmps11
  go_wp2_with (refine wpL_load (l := [.int .i64 x.lo.x, .int .i64 x.lo.y, .int .i64 x.lo.z, .int .i64 x.hi.x, .int .i64 x.hi.y, .int .i64 x.hi.z]) (by rfl) (by rfl) HB.out Try.underlying35 (by rfl) (by kernel_rfl) (by kernel_rfl) ?_; (conv => arg 5; simp only [Act.put, List.setIfInBounds_toArray, List.set_cons_zero, List.set_cons_succ]))
  refine AS.out.mono ?_
  rintro e1 w1 ⟨rfl, hS⟩
  go_wp2_with fail
  exact bodyPost_ret (v := .tuple #[.slice none 0 0, .int .i64 1]) (by simp [results, Try.results11, go_sem]) rfl ⟨rfl, hb.trans (hS.mono hb.size)⟩
set_option maxRecDepth 100000 in
set_option maxHeartbeats 2000000 in
theorem wayN {v : Value} {f t : Pt} (w : World) (h : Unmade w v) : RetB Try.prog 21 #[v, .agg #[.int .i64 f.x, .int .i64 f.y, .int .i64 f.z], .agg #[.int .i64 t.x, .int .i64 t.y, .int .i64 t.z]] w (.tuple #[.slice none 0 0, .int .i64 1]) := by
  have hb1 : Below w.heap.size w (w.alloc (.cells #[.int .i64 f.x, .int .i64 f.y, .int .i64 f.z] 33)) := (Below.refl _ _).alloc (Nat.le_refl _) _
  have hb : Below w.heap.size w ((w.alloc (.cells #[.int .i64 f.x, .int .i64 f.y, .int .i64 f.z] 33)).alloc (.cells #[.int .i64 t.x, .int .i64 t.y, .int .i64 t.z] 33)) := hb1.alloc (by simp) _
  have AS := Lib.hid (askedN (n := 1) (x := bzero) _ (h.step hb))
  clear h
  unfold RetB
  go_enter Try.func21, Try.ntmps21
  go_wp2_with fail
  refine AS.out.mono ?_
  rintro e1 w1 ⟨rfl, hS⟩
  go_wp2_with fail
  exact bodyPost_ret (v := .tuple #[.slice none 0 0, .int .i64 1]) (by simp [results, Try.results21, go_sem]) rfl ⟨rfl, hb.trans (hS.mono hb.size)⟩
set_option maxRecDepth 100000 in
set_option maxHeartbeats 2000000 in
theorem lenN {v : Value} (w : World) (h : Unmade w v) : RetB Try.prog 17 #[v] w (.int .i64 0) := by
  unfold RetB
  rcases h with rfl | ⟨p, rfl, hb⟩
  · go_enter Try.func17, Try.ntmps17
    go_wp2_with fail
    exact bodyPost_ret (v := .int .i64 0) (by simp [results, Try.results17, go_sem]) rfl ⟨rfl, Below.refl _ _⟩
  · have c5 : w.cell? ⟨p, 5, none⟩ = some (.map none) := by rw [hb.cell]; rfl
    have lp := hb.lt
    have hln := fun ty => Maps.len_nil (P := Try.prog) (w := w) Try.underlying56 ty
    clear hb
    go_enter Try.func17, Try.ntmps17
    go_wp2_with fail
    exact bodyPost_ret (v := .int .i64 0) (by simp [results, Try.results17, go_sem]) rfl ⟨rfl, Below.refl _ _⟩
set_option maxRecDepth 100000 in
set_option maxHeartbeats 2000000 in
theorem heightN {v : Value} (w : World) (h : Unmade w v) : RetB Try.prog 18 #[v] w (.int .i64 0) := by
  unfold RetB
  rcases h with rfl | ⟨p, rfl, hb⟩
  · go_enter Try.func18, Try.ntmps18
    go_wp2_with fail
    exact bodyPost_ret (v := .int .i64 0) (by simp [results, Try.results18, go_sem]) rfl ⟨rfl, Below.refl _ _⟩
  · have c0 : w.cell? ⟨p, 0, none⟩ = some (.bool false) := by rw [hb.cell]; rfl
    have lp := hb.lt
    clear hb
    go_enter Try.func18, Try.ntmps18
    go_wp2_with fail
    exact bodyPost_ret (v := .int .i64 0) (by simp [results, Try.results18, go_sem]) rfl ⟨rfl, Below.refl _ _⟩
set_option maxRecDepth 100000 in
set_option maxHeartbeats 2000000 in
theorem boundN {v : Value} {n : Int} (w : World) (h : Unmade w v) (hw : wfI n) : RetB Try.prog 25 #[v, .int .i64 n] w (.tuple #[.agg #[.int .i64 bzero.lo.x, .int .i64 bzero.lo.y, .int .i64 bzero.lo.z, .int .i64 bzero.hi.x, .int .i64 bzero.hi.y, .int .i64 bzero.hi.z], .bool false]) := by
  unfold RetB
  rcases h with rfl | ⟨p, rfl, hb⟩
  · go_enter Try.func25, Try.ntmps25
    go_wp2_with fail
    exact bodyPost_ret (v := .tuple #[.agg #[.int .i64 bzero.lo.x, .int .i64 bzero.lo.y, .int .i64 bzero.lo.z, .int .i64 bzero.hi.x, .int .i64 bzero.hi.y, .int .i64 bzero.hi.z], .bool false]) (by simp [results, Try.results25, go_sem, bzero, *]) rfl ⟨rfl, (Below.refl _ _).alloc (Nat.le_refl _) _⟩
  · have hS : Below w.heap.size w (w.alloc (.cells #[.int .i64 0, .int .i64 0, .int .i64 0, .int .i64 0, .int .i64 0, .int .i64 0] 35)) := (Below.refl _ _).alloc (Nat.le_refl _) _
    have hb2 := hb.step hS
    have c5 : (w.alloc (.cells #[.int .i64 0, .int .i64 0, .int .i64 0, .int .i64 0, .int .i64 0, .int .i64 0] 35)).cell? ⟨p, 5, none⟩ = some (.map none) := by rw [hb2.cell]; rfl
    have lp := hb2.lt
    have l1 := Maps.look_nil (P := Try.prog) (w := w.alloc (.cells #[.int .i64 0, .int .i64 0, .int .i64 0, .int .i64 0, .int .i64 0, .int .i64 0] 35)) true kyd Try.underlying56 (zI _) (keyK hw)
    clear hb hb2
    go_enter Try.func25, Try.ntmps25
    go_wp2_with fail
    exact bodyPost_ret (v := .tuple #[.agg #[.int .i64 bzero.lo.x, .int .i64 bzero.lo.y, .int .i64 bzero.lo.z, .int .i64 bzero.hi.x, .int .i64 bzero.hi.y, .int .i64 bzero.hi.z], .bool false]) (by simp [results, Try.results25, go_sem, bzero, *]) rfl ⟨rfl, hS⟩
set_option maxRecDepth 100000 in
set_option maxHeartbeats 2000000 in
theorem pairsN {v : Value} (w : World) (h : Unmade w v) : RetB Try.prog 15 #[v] w (.slice none 0 0) := by
  unfold RetB
  rcases h with rfl | ⟨p, rfl, hb⟩
  · go_enter Try.func15, Try.ntmps15
    go_wp2_with fail
    exact bodyPost_ret (v := .slice none 0 0) (by simp [results, Try.results15, go_sem]) rfl ⟨rfl, Below.refl _ _⟩
  · have c5 : w.cell? ⟨p, 5, none⟩ = some (.map none) := by rw [hb.cell]; rfl
    have lp := hb.lt
    have hrg := run_range_nilMap (P := Try.prog) w 56 3 3 Try.underlying56
    have hnx := fun ty => run_next_nilMap (P := Try.prog) w ty 0 0 #[]
    have hS : Below w.heap.size w (w.alloc (.mapIter none 0 #[] 0)) := (Below.refl _ _).alloc (Nat.le_refl _) _
    clear hb
    go_enter Try.func15, Try.ntmps15
    go_wp2_with fail
    refine wp_loop_rounds 1 ?_
    rw [rounds_succ]
    go_wp2_with fail
    refine (QSo.sortC (base := w.heap.size) (l := []) _ (OwnS.nil _ _) (fun q hq => by cases hq) (Nat.zero_le _)).mono ?_
    rintro e w2 ⟨rfl, _, hb⟩
    have hB := hb w hS
    go_wp2_with fail
    exact bodyPost_ret (v := .slice none 0 0) (by simp [results, Try.results15, go_sem]) rfl ⟨rfl, hB⟩
end TNl
end Go.Proofs.Ytbcjnckejkjfeaa
namespace Go.Proofs.Ytbcjnckejkjfeaa
set_option linter.unusedVariables false
set_option linter.unusedSimpArgs false
open Go.RowKit Go.NP
namespace LNn
open TrW TrI QVm TNl TAw
theorem bd_lo {w : World} {g : Nat} {x : Bd} {T : TypeId} (h : Box w g [.int .i64 x.lo.x, .int .i64 x.lo.y, .int .i64 x.lo.z, .int .i64 x.hi.x, .int .i64 x.hi.y, .int .i64 x.hi.z] T) : At' w g 0 [.int .i64 x.lo.x, .int .i64 x.lo.y, .int .i64 x.lo.z] := fun j v hv => by
  rw [h.cell, Nat.zero_add]
  have hj : j < 3 := by
    rcases Nat.lt_or_ge j 3 with h | h
    · exact h
    · rw [List.getElem?_eq_none (by exact h)] at hv; cases hv
  rw [← hv]
  rcases (by omega : j = 0 ∨ j = 1 ∨ j = 2) with rfl | rfl | rfl <;> rfl
theorem bd_hi {w : World} {g : Nat} {x : Bd} {T : TypeId} (h : Box w g [.int .i64 x.lo.x, .int .i64 x.lo.y, .int .i64 x.lo.z, .int .i64 x.hi.x, .int .i64 x.hi.y, .int .i64 x.hi.z] T) : At' w g 3 [.int .i64 x.hi.x, .int .i64 x.hi.y, .int .i64 x.hi.z] := fun j v hv => by
  rw [h.cell]
  have hj : j < 3 := by
    rcases Nat.lt_or_ge j 3 with h | h
    · exact h
    · rw [List.getElem?_eq_none (by exact h)] at hv; cases hv
  rw [← hv]
  rcases (by omega : j = 0 ∨ j = 1 ∨ j = 2) with rfl | rfl | rfl <;> rfl
structure St (w0 w : World) (x : Bd) (gb go : Nat) : Prop where
  bx : Box w gb [.int .i64 x.lo.x, .int .i64 x.lo.y, .int .i64 x.lo.z, .int .i64 x.hi.x, .int .i64 x.hi.y, .int .i64 x.hi.z] 35
  un : Unmade w (.pointer (some ⟨go, 0, none⟩))
  nl : Unmade w (.pointer none)
  bel : Below w0.heap.size w0 w
theorem St.step {w0 w w' : World} {x : Bd} {gb go : Nat} (h : St w0 w x gb go) (hS : Below w.heap.size w w') : St w0 w' x gb go := ⟨h.bx.step hS, h.un.step hS, h.nl.step hS, h.bel.trans (hS.mono h.bel.size)⟩
set_option maxRecDepth 100000 in
set_option maxHeartbeats 8000000 in
theorem law (n : Int) (x : Bd) (hw : wfI n) (w : World) : RetB Try.prog 7 #[.int .i64 n, .agg #[.int .i64 x.lo.x, .int .i64 x.lo.y, .int .i64 x.lo.z, .int .i64 x.hi.x, .int .i64 x.hi.y, .int .i64 x.hi.z]] w (.bool true) := by
  have hb1 : Below w.heap.size w (w.alloc (.cells #[.int .i64 x.lo.x, .int .i64 x.lo.y, .int .i64 x.lo.z, .int .i64 x.hi.x, .int .i64 x.hi.y, .int .i64 x.hi.z] 35)) := (Below.refl _ _).alloc (Nat.le_refl _) _
  have hb2 : Below w.heap.size w ((w.alloc (.cells #[.int .i64 x.lo.x, .int .i64 x.lo.y, .int .i64 x.lo.z, .int .i64 x.hi.x, .int .i64 x.hi.y, .int .i64 x.hi.z] 35)).alloc (.cells [.bool false, .int .i64 0, .slice none 0 0, .slice none 0 0, .int .i64 0, .map none].toArray 58)) := hb1.alloc (by simp) _
  have S1 : St w ((w.alloc (.cells #[.int .i64 x.lo.x, .int .i64 x.lo.y, .int .i64 x.lo.z, .int .i64 x.hi.x, .int .i64 x.hi.y, .int .i64 x.hi.z] 35)).alloc (.cells [.bool false, .int .i64 0, .slice none 0 0, .slice none 0 0, .int .i64 0, .map none].toArray 58)) x w.heap.size (w.heap.size + 1) := ⟨(Box.new rfl).alloc _, .inr ⟨_, rfl, Box.new (by simp)⟩, .inl rfl, hb2⟩
  unfold RetB
  go_enter Try.func7, Try.ntmps7
  go_wp2_with fail
  revert S1
  generalize (w.alloc (.cells #[.int .i64 x.lo.x, .int .i64 x.lo.y, .int .i64 x.lo.z, .int .i64 x.hi.x, .int .i64 x.hi.y, .int .i64 x.hi.z] 35)).alloc (.cells [.bool false, .int .i64 0, .slice none 0 0, .slice none 0 0, .int .i64 0, .map none].toArray 58) = w1
  intro S1
  have H1 := Lib.hid S1
  clear S1 hb1 hb2
  refine wp_loop_rounds 3 ?_
  rw [rounds_succ]
  go_wp2_with (first | (refine wpL_load (l := [.int .i64 x.lo.x, .int .i64 x.lo.y, .int .i64 x.lo.z, .int .i64 x.hi.x, .int .i64 x.hi.y, .int .i64 x.hi.z]) (by rfl) (by rfl) H1.out.bx Try.underlying35 (by rfl) (by kernel_rfl) (by kernel_rfl) ?_; (conv => arg 5; simp only [Act.put, List.setIfInBounds_toArray, List.set_cons_zero, List.set_cons_succ])) | (refine wpL_at (l := [.int .i64 x.lo.x, .int .i64 x.lo.y, .int .i64 x.lo.z]) (by rfl) (by rfl) (bd_lo H1.out.bx) Try.underlying33 (by rfl) (by kernel_rfl) (by kernel_rfl) ?_; (conv => arg 5; simp only [Act.put, List.setIfInBounds_toArray, List.set_cons_zero, List.set_cons_succ])) | (refine wpL_at (l := [.int .i64 x.hi.x, .int .i64 x.hi.y, .int .i64 x.hi.z]) (by rfl) (by rfl) (bd_hi H1.out.bx) Try.underlying33 (by rfl) (by kernel_rfl) (by kernel_rfl) ?_; (conv => arg 5; simp only [Act.put, List.setIfInBounds_toArray, List.set_cons_zero, List.set_cons_succ])))
  refine Calls.mono (setN w1 H1.out.nl) ?_
  rintro e w11 ⟨rfl, hS⟩
  have H11 := Lib.hid (St.step H1.out hS)
  clear hS H1
  go_wp2_with (first | (refine wpL_load (l := [.int .i64 x.lo.x, .int .i64 x.lo.y, .int .i64 x.lo.z, .int .i64 x.hi.x, .int .i64 x.hi.y, .int .i64 x.hi.z]) (by rfl) (by rfl) H11.out.bx Try.underlying35 (by rfl) (by kernel_rfl) (by kernel_rfl) ?_; (conv => arg 5; simp only [Act.put, List.setIfInBounds_toArray, List.set_cons_zero, List.set_cons_succ])) | (refine wpL_at (l := [.int .i64 x.lo.x, .int .i64 x.lo.y, .int .i64 x.lo.z]) (by rfl) (by rfl) (bd_lo H11.out.bx) Try.underlying33 (by rfl) (by kernel_rfl) (by kernel_rfl) ?_; (conv => arg 5; simp only [Act.put, List.setIfInBounds_toArray, List.set_cons_zero, List.set_cons_succ])) | (refine wpL_at (l := [.int .i64 x.hi.x, .int .i64 x.hi.y, .int .i64 x.hi.z]) (by rfl) (by rfl) (bd_hi H11.out.bx) Try.underlying33 (by rfl) (by kernel_rfl) (by kernel_rfl) ?_; (conv => arg 5; simp only [Act.put, List.setIfInBounds_toArray, List.set_cons_zero, List.set_cons_succ])))
  refine Calls.mono (meetN w11 H11.out.nl) ?_
  rintro e w12 ⟨rfl, hS⟩
  have H12 := Lib.hid (St.step H11.out hS)
  clear hS H11
  go_wp2_with (first | (refine wpL_load (l := [.int .i64 x.lo.x, .int .i64 x.lo.y, .int .i64 x.lo.z, .int .i64 x.hi.x, .int .i64 x.hi.y, .int .i64 x.hi.z]) (by rfl) (by rfl) H12.out.bx Try.underlying35 (by rfl) (by kernel_rfl) (by kernel_rfl) ?_; (conv => arg 5; simp only [Act.put, List.setIfInBounds_toArray, List.set_cons_zero, List.set_cons_succ])) | (refine wpL_at (l := [.int .i64 x.lo.x, .int .i64 x.lo.y, .int .i64 x.lo.z]) (by rfl) (by rfl) (bd_lo H12.out.bx) Try.underlying33 (by rfl) (by kernel_rfl) (by kernel_rfl) ?_; (conv => arg 5; simp only [Act.put, List.setIfInBounds_toArray, List.set_cons_zero, List.set_cons_succ])) | (refine wpL_at (l := [.int .i64 x.hi.x, .int .i64 x.hi.y, .int .i64 x.hi.z]) (by rfl) (by rfl) (bd_hi H12.out.bx) Try.underlying33 (by rfl) (by kernel_rfl) (by kernel_rfl) ?_; (conv => arg 5; simp only [Act.put, List.setIfInBounds_toArray, List.set_cons_zero, List.set_cons_succ])))
  refine Calls.mono (wayN w12 H12.out.nl) ?_
  rintro e w13 ⟨rfl, hS⟩
  have H13 := Lib.hid (St.step H12.out hS)
  clear hS H12
  go_wp2_with (first | (refine wpL_load (l := [.int .i64 x.lo.x, .int .i64 x.lo.y, .int .i64 x.lo.z, .int .i64 x.hi.x, .int .i64 x.hi.y, .int .i64 x.hi.z]) (by rfl) (by rfl) H13.out.bx Try.underlying35 (by rfl) (by kernel_rfl) (by kernel_rfl) ?_; (conv => arg 5; simp only [Act.put, List.setIfInBounds_toArray, List.set_cons_zero, List.set_cons_succ])) | (refine wpL_at (l := [.int .i64 x.lo.x, .int .i64 x.lo.y, .int .i64 x.lo.z]) (by rfl) (by rfl) (bd_lo H13.out.bx) Try.underlying33 (by rfl) (by kernel_rfl) (by kernel_rfl) ?_; (conv => arg 5; simp only [Act.put, List.setIfInBounds_toArray, List.set_cons_zero, List.set_cons_succ])) | (refine wpL_at (l := [.int .i64 x.hi.x, .int .i64 x.hi.y, .int .i64 x.hi.z]) (by rfl) (by rfl) (bd_hi H13.out.bx) Try.underlying33 (by rfl) (by kernel_rfl) (by kernel_rfl) ?_; (conv => arg 5; simp only [Act.put, List.setIfInBounds_toArray, List.set_cons_zero, List.set_cons_succ])))
  refine Calls.mono (boundN w13 H13.out.nl hw) ?_
  rintro e w14 ⟨rfl, hS⟩
  have H14 := Lib.hid (St.step H13.out hS)
  clear hS H13
  have hA : Below w14.heap.size w14 (w14.alloc (.cells [.int .i64 0, .int .i64 0, .int .i64 0, .int .i64 0, .int .i64 0, .int .i64 0].toArray 35)) := (Below.refl _ _).alloc (Nat.le_refl _) _
  have hBz : Box (w14.alloc (.cells [.int .i64 0, .int .i64 0, .int .i64 0, .int .i64 0, .int .i64 0, .int .i64 0].toArray 35)) w14.heap.size [.int .i64 0, .int .i64 0, .int .i64 0, .int .i64 0, .int .i64 0, .int .i64 0] 35 := Box.new rfl
  have H15 := Lib.hid (St.step H14.out hA)
  clear hA
  go_wp2_with (first | (refine wpL_load (l := [.int .i64 0, .int .i64 0, .int .i64 0, .int .i64 0, .int .i64 0, .int .i64 0]) (by rfl) (by rfl) hBz Try.underlying35 (by rfl) (by kernel_rfl) (by kernel_rfl) ?_; (conv => arg 5; simp only [Act.put, List.setIfInBounds_toArray, List.set_cons_zero, List.set_cons_succ])) | (refine wpL_load (l := [.int .i64 x.lo.x, .int .i64 x.lo.y, .int .i64 x.lo.z, .int .i64 x.hi.x, .int .i64 x.hi.y, .int .i64 x.hi.z]) (by rfl) (by rfl) H15.out.bx Try.underlying35 (by rfl) (by kernel_rfl) (by kernel_rfl) ?_; (conv => arg 5; simp only [Act.put, List.setIfInBounds_toArray, List.set_cons_zero, List.set_cons_succ])))
  clear hBz
  refine Calls.mono (putN _ H15.out.nl) ?_
  rintro e w16 ⟨rfl, hS⟩
  have H16 := Lib.hid (St.step H15.out hS)
  clear hS H15
  go_wp2_with (first | (refine wpL_load (l := [.int .i64 x.lo.x, .int .i64 x.lo.y, .int .i64 x.lo.z, .int .i64 x.hi.x, .int .i64 x.hi.y, .int .i64 x.hi.z]) (by rfl) (by rfl) H16.out.bx Try.underlying35 (by rfl) (by kernel_rfl) (by kernel_rfl) ?_; (conv => arg 5; simp only [Act.put, List.setIfInBounds_toArray, List.set_cons_zero, List.set_cons_succ])) | (refine wpL_at (l := [.int .i64 x.lo.x, .int .i64 x.lo.y, .int .i64 x.lo.z]) (by rfl) (by rfl) (bd_lo H16.out.bx) Try.underlying33 (by rfl) (by kernel_rfl) (by kernel_rfl) ?_; (conv => arg 5; simp only [Act.put, List.setIfInBounds_toArray, List.set_cons_zero, List.set_cons_succ])) | (refine wpL_at (l := [.int .i64 x.hi.x, .int .i64 x.hi.y, .int .i64 x.hi.z]) (by rfl) (by rfl) (bd_hi H16.out.bx) Try.underlying33 (by rfl) (by kernel_rfl) (by kernel_rfl) ?_; (conv => arg 5; simp only [Act.put, List.setIfInBounds_toArray, List.set_cons_zero, List.set_cons_succ])))
  refine Calls.mono (dropN _ H16.out.nl) ?_
  rintro e w17 ⟨rfl, hS⟩
  have H17 := Lib.hid (St.step H16.out hS)
  clear hS H16
  go_wp2_with (first | (refine wpL_load (l := [.int .i64 x.lo.x, .int .i64 x.lo.y, .int .i64 x.lo.z, .int .i64 x.hi.x, .int .i64 x.hi.y, .int .i64 x.hi.z]) (by rfl) (by rfl) H17.out.bx Try.underlying35 (by rfl) (by kernel_rfl) (by kernel_rfl) ?_; (conv => arg 5; simp only [Act.put, List.setIfInBounds_toArray, List.set_cons_zero, List.set_cons_succ])) | (refine wpL_at (l := [.int .i64 x.lo.x, .int .i64 x.lo.y, .int .i64 x.lo.z]) (by rfl) (by rfl) (bd_lo H17.out.bx) Try.underlying33 (by rfl) (by kernel_rfl) (by kernel_rfl) ?_; (conv => arg 5; simp only [Act.put, List.setIfInBounds_toArray, List.set_cons_zero, List.set_cons_succ])) | (refine wpL_at (l := [.int .i64 x.hi.x, .int .i64 x.hi.y, .int .i64 x.hi.z]) (by rfl) (by rfl) (bd_hi H17.out.bx) Try.underlying33 (by rfl) (by kernel_rfl) (by kernel_rfl) ?_; (conv => arg 5; simp only [Act.put, List.setIfInBounds_toArray, List.set_cons_zero, List.set_cons_succ])))
  refine Calls.mono (pairsN _ H17.out.nl) ?_
  rintro e w18 ⟨rfl, hS⟩
  have H18 := Lib.hid (St.step H17.out hS)
  clear hS H17
  go_wp2_with (first | (refine wpL_load (l := [.int .i64 x.lo.x, .int .i64 x.lo.y, .int .i64 x.lo.z, .int .i64 x.hi.x, .int .i64 x.hi.y, .int .i64 x.hi.z]) (by rfl) (by rfl) H18.out.bx Try.underlying35 (by rfl) (by kernel_rfl) (by kernel_rfl) ?_; (conv => arg 5; simp only [Act.put, List.setIfInBounds_toArray, List.set_cons_zero, List.set_cons_succ])) | (refine wpL_at (l := [.int .i64 x.lo.x, .int .i64 x.lo.y, .int .i64 x.lo.z]) (by rfl) (by rfl) (bd_lo H18.out.bx) Try.underlying33 (by rfl) (by kernel_rfl) (by kernel_rfl) ?_; (conv => arg 5; simp only [Act.put, List.setIfInBounds_toArray, List.set_cons_zero, List.set_cons_succ])) | (refine wpL_at (l := [.int .i64 x.hi.x, .int .i64 x.hi.y, .int .i64 x.hi.z]) (by rfl) (by rfl) (bd_hi H18.out.bx) Try.underlying33 (by rfl) (by kernel_rfl) (by kernel_rfl) ?_; (conv => arg 5; simp only [Act.put, List.setIfInBounds_toArray, List.set_cons_zero, List.set_cons_succ])))
  refine Calls.mono (lenN _ H18.out.nl) ?_
  rintro e w19 ⟨rfl, hS⟩
  have H19 := Lib.hid (St.step H18.out hS)
  clear hS H18
  go_wp2_with (first | (refine wpL_load (l := [.int .i64 x.lo.x, .int .i64 x.lo.y, .int .i64 x.lo.z, .int .i64 x.hi.x, .int .i64 x.hi.y, .int .i64 x.hi.z]) (by rfl) (by rfl) H19.out.bx Try.underlying35 (by rfl) (by kernel_rfl) (by kernel_rfl) ?_; (conv => arg 5; simp only [Act.put, List.setIfInBounds_toArray, List.set_cons_zero, List.set_cons_succ])) | (refine wpL_at (l := [.int .i64 x.lo.x, .int .i64 x.lo.y, .int .i64 x.lo.z]) (by rfl) (by rfl) (bd_lo H19.out.bx) Try.underlying33 (by rfl) (by kernel_rfl) (by kernel_rfl) ?_; (conv => arg 5; simp only [Act.put, List.setIfInBounds_toArray, List.set_cons_zero, List.set_cons_succ])) | (refine wpL_at (l := [.int .i64 x.hi.x, .int .i64 x.hi.y, .int .i64 x.hi.z]) (by rfl) (by rfl) (bd_hi H19.out.bx) Try.underlying33 (by rfl) (by kernel_rfl) (by kernel_rfl) ?_; (conv => arg 5; simp only [Act.put, List.setIfInBounds_toArray, List.set_cons_zero, List.set_cons_succ])))
  refine Calls.mono (heightN _ H19.out.nl) ?_
  rintro e w110 ⟨rfl, hS⟩
  have H110 := Lib.hid (St.step H19.out hS)
  clear hS H19
  go_wp2_with (first | (refine wpL_load (l := [.int .i64 x.lo.x, .int .i64 x.lo.y, .int .i64 x.lo.z, .int .i64 x.hi.x, .int .i64 x.hi.y, .int .i64 x.hi.z]) (by rfl) (by rfl) H110.out.bx Try.underlying35 (by rfl) (by kernel_rfl) (by kernel_rfl) ?_; (conv => arg 5; simp only [Act.put, List.setIfInBounds_toArray, List.set_cons_zero, List.set_cons_succ])) | (refine wpL_at (l := [.int .i64 x.lo.x, .int .i64 x.lo.y, .int .i64 x.lo.z]) (by rfl) (by rfl) (bd_lo H110.out.bx) Try.underlying33 (by rfl) (by kernel_rfl) (by kernel_rfl) ?_; (conv => arg 5; simp only [Act.put, List.setIfInBounds_toArray, List.set_cons_zero, List.set_cons_succ])) | (refine wpL_at (l := [.int .i64 x.hi.x, .int .i64 x.hi.y, .int .i64 x.hi.z]) (by rfl) (by rfl) (bd_hi H110.out.bx) Try.underlying33 (by rfl) (by kernel_rfl) (by kernel_rfl) ?_; (conv => arg 5; simp only [Act.put, List.setIfInBounds_toArray, List.set_cons_zero, List.set_cons_succ])))
  rw [rounds_succ]
  go_wp2_with (first | (refine wpL_load (l := [.int .i64 x.lo.x, .int .i64 x.lo.y, .int .i64 x.lo.z, .int .i64 x.hi.x, .int .i64 x.hi.y, .int .i64 x.hi.z]) (by rfl) (by rfl) H110.out.bx Try.underlying35 (by rfl) (by kernel_rfl) (by kernel_rfl) ?_; (conv => arg 5; simp only [Act.put, List.setIfInBounds_toArray, List.set_cons_zero, List.set_cons_succ])) | (refine wpL_at (l := [.int .i64 x.lo.x, .int .i64 x.lo.y, .int .i64 x.lo.z]) (by rfl) (by rfl) (bd_lo H110.out.bx) Try.underlying33 (by rfl) (by kernel_rfl) (by kernel_rfl) ?_; (conv => arg 5; simp only [Act.put, List.setIfInBounds_toArray, List.set_cons_zero, List.set_cons_succ])) | (refine wpL_at (l := [.int .i64 x.hi.x, .int .i64 x.hi.y, .int .i64 x.hi.z]) (by rfl) (by rfl) (bd_hi H110.out.bx) Try.underlying33 (by rfl) (by kernel_rfl) (by kernel_rfl) ?_; (conv => arg 5; simp only [Act.put, List.setIfInBounds_toArray, List.set_cons_zero, List.set_cons_succ])))
  refine Calls.mono (setN w110 H110.out.un) ?_
  rintro e w1101 ⟨rfl, hS⟩
  have H1101 := Lib.hid (St.step H110.out hS)
  clear hS H110
  go_wp2_with (first | (refine wpL_load (l := [.int .i64 x.lo.x, .int .i64 x.lo.y, .int .i64 x.lo.z, .int .i64 x.hi.x, .int .i64 x.hi.y, .int .i64 x.hi.z]) (by rfl) (by rfl) H1101.out.bx Try.underlying35 (by rfl) (by kernel_rfl) (by kernel_rfl) ?_; (conv => arg 5; simp only [Act.put, List.setIfInBounds_toArray, List.set_cons_zero, List.set_cons_succ])) | (refine wpL_at (l := [.int .i64 x.lo.x, .int .i64 x.lo.y, .int .i64 x.lo.z]) (by rfl) (by rfl) (bd_lo H1101.out.bx) Try.underlying33 (by rfl) (by kernel_rfl) (by kernel_rfl) ?_; (conv => arg 5; simp only [Act.put, List.setIfInBounds_toArray, List.set_cons_zero, List.set_cons_succ])) | (refine wpL_at (l := [.int .i64 x.hi.x, .int .i64 x.hi.y, .int .i64 x.hi.z]) (by rfl) (by rfl) (bd_hi H1101.out.bx) Try.underlying33 (by rfl) (by kernel_rfl) (by kernel_rfl) ?_; (conv => arg 5; simp only [Act.put, List.setIfInBounds_toArray, List.set_cons_zero, List.set_cons_succ])))
  refine Calls.mono (meetN w1101 H1101.out.un) ?_
  rintro e w1102 ⟨rfl, hS⟩
  have H1102 := Lib.hid (St.step H1101.out hS)
  clear hS H1101
  go_wp2_with (first | (refine wpL_load (l := [.int .i64 x.lo.x, .int .i64 x.lo.y, .int .i64 x.lo.z, .int .i64 x.hi.x, .int .i64 x.hi.y, .int .i64 x.hi.z]) (by rfl) (by rfl) H1102.out.bx Try.underlying35 (by rfl) (by kernel_rfl) (by kernel_rfl) ?_; (conv => arg 5; simp only [Act.put, List.setIfInBounds_toArray, List.set_cons_zero, List.set_cons_succ])) | (refine wpL_at (l := [.int .i64 x.lo.x, .int .i64 x.lo.y, .int .i64 x.lo.z]) (by rfl) (by rfl) (bd_lo H1102.out.bx) Try.underlying33 (by rfl) (by kernel_rfl) (by kernel_rfl) ?_; (conv => arg 5; simp only [Act.put, List.setIfInBounds_toArray, List.set_cons_zero, List.set_cons_succ])) | (refine wpL_at (l := [.int .i64 x.hi.x, .int .i64 x.hi.y, .int .i64 x.hi.z]) (by rfl) (by rfl) (bd_hi H1102.out.bx) Try.underlying33 (by rfl) (by kernel_rfl) (by kernel_rfl) ?_; (conv => arg 5; simp only [Act.put, List.setIfInBounds_toArray, List.set_cons_zero, List.set_cons_succ])))
  refine Calls.mono (wayN w1102 H1102.out.un) ?_
  rintro e w1103 ⟨rfl, hS⟩
  have H1103 := Lib.hid (St.step H1102.out hS)
  clear hS H1102
  go_wp2_with (first | (refine wpL_load (l := [.int .i64 x.lo.x, .int .i64 x.lo.y, .int .i64 x.lo.z, .int .i64 x.hi.x, .int .i64 x.hi.y, .int .i64 x.hi.z]) (by rfl) (by rfl) H1103.out.bx Try.underlying35 (by rfl) (by kernel_rfl) (by kernel_rfl) ?_; (conv => arg 5; simp only [Act.put, List.setIfInBounds_toArray, List.set_cons_zero, List.set_cons_succ])) | (refine wpL_at (l := [.int .i64 x.lo.x, .int .i64 x.lo.y, .int .i64 x.lo.z]) (by rfl) (by rfl) (bd_lo H1103.out.bx) Try.underlying33 (by rfl) (by kernel_rfl) (by kernel_rfl) ?_; (conv => arg 5; simp only [Act.put, List.setIfInBounds_toArray, List.set_cons_zero, List.set_cons_succ])) | (refine wpL_at (l := [.int .i64 x.hi.x, .int .i64 x.hi.y, .int .i64 x.hi.z]) (by rfl) (by rfl) (bd_hi H1103.out.bx) Try.underlying33 (by rfl) (by kernel_rfl) (by kernel_rfl) ?_; (conv => arg 5; simp only [Act.put, List.setIfInBounds_toArray, List.set_cons_zero, List.set_cons_succ])))
  refine Calls.mono (boundN w1103 H1103.out.un hw) ?_
  rintro e w1104 ⟨rfl, hS⟩
  have H1104 := Lib.hid (St.step H1103.out hS)
  clear hS H1103
  have hA : Below w1104.heap.size w1104 (w1104.alloc (.cells [.int .i64 0, .int .i64 0, .int .i64 0, .int .i64 0, .int .i64 0, .int .i64 0].toArray 35)) := (Below.refl _ _).alloc (Nat.le_refl _) _
  have hBz : Box (w1104.alloc (.cells [.int .i64 0, .int .i64 0, .int .i64 0, .int .i64 0, .int .i64 0, .int .i64 0].toArray 35)) w1104.heap.size [.int .i64 0, .int .i64 0, .int .i64 0, .int .i64 0, .int .i64 0, .int .i64 0] 35 := Box.new rfl
  have H1105 := Lib.hid (St.step H1104.out hA)
  clear hA
  go_wp2_with (first | (refine wpL_load (l := [.int .i64 0, .int .i64 0, .int .i64 0, .int .i64 0, .int .i64 0, .int .i64 0]) (by rfl) (by rfl) hBz Try.underlying35 (by rfl) (by kernel_rfl) (by kernel_rfl) ?_; (conv => arg 5; simp only [Act.put, List.setIfInBounds_toArray, List.set_cons_zero, List.set_cons_succ])) | (refine wpL_load (l := [.int .i64 x.lo.x, .int .i64 x.lo.y, .int .i64 x.lo.z, .int .i64 x.hi.x, .int .i64 x.hi.y, .int .i64 x.hi.z]) (by rfl) (by rfl) H1105.out.bx Try.underlying35 (by rfl) (by kernel_rfl) (by kernel_rfl) ?_; (conv => arg 5; simp only [Act.put, List.setIfInBounds_toArray, List.set_cons_zero, List.set_cons_succ])))
  clear hBz
  refine Calls.mono (putN _ H1105.out.un) ?_
  rintro e w1106 ⟨rfl, hS⟩
  have H1106 := Lib.hid (St.step H1105.out hS)
  clear hS H1105
  go_wp2_with (first | (refine wpL_load (l := [.int .i64 x.lo.x, .int .i64 x.lo.y, .int .i64 x.lo.z, .int .i64 x.hi.x, .int .i64 x.hi.y, .int .i64 x.hi.z]) (by rfl) (by rfl) H1106.out.bx Try.underlying35 (by rfl) (by kernel_rfl) (by kernel_rfl) ?_; (conv => arg 5; simp only [Act.put, List.setIfInBounds_toArray, List.set_cons_zero, List.set_cons_succ])) | (refine wpL_at (l := [.int .i64 x.lo.x, .int .i64 x.lo.y, .int .i64 x.lo.z]) (by rfl) (by rfl) (bd_lo H1106.out.bx) Try.underlying33 (by rfl) (by kernel_rfl) (by kernel_rfl) ?_; (conv => arg 5; simp only [Act.put, List.setIfInBounds_toArray, List.set_cons_zero, List.set_cons_succ])) | (refine wpL_at (l := [.int .i64 x.hi.x, .int .i64 x.hi.y, .int .i64 x.hi.z]) (by rfl) (by rfl) (bd_hi H1106.out.bx) Try.underlying33 (by rfl) (by kernel_rfl) (by kernel_rfl) ?_; (conv => arg 5; simp only [Act.put, List.setIfInBounds_toArray, List.set_cons_zero, List.set_cons_succ])))
  refine Calls.mono (dropN _ H1106.out.un) ?_
  rintro e w1107 ⟨rfl, hS⟩
  have H1107 := Lib.hid (St.step H1106.out hS)
  clear hS H1106
  go_wp2_with (first | (refine wpL_load (l := [.int .i64 x.lo.x, .int .i64 x.lo.y, .int .i64 x.lo.z, .int .i64 x.hi.x, .int .i64 x.hi.y, .int .i64 x.hi.z]) (by rfl) (by rfl) H1107.out.bx Try.underlying35 (by rfl) (by kernel_rfl) (by kernel_rfl) ?_; (conv => arg 5; simp only [Act.put, List.setIfInBounds_toArray, List.set_cons_zero, List.set_cons_succ])) | (refine wpL_at (l := [.int .i64 x.lo.x, .int .i64 x.lo.y, .int .i64 x.lo.z]) (by rfl) (by rfl) (bd_lo H1107.out.bx) Try.underlying33 (by rfl) (by kernel_rfl) (by kernel_rfl) ?_; (conv => arg 5; simp only [Act.put, List.setIfInBounds_toArray, List.set_cons_zero, List.set_cons_succ])) | (refine wpL_at (l := [.int .i64 x.hi.x, .int .i64 x.hi.y, .int .i64 x.hi.z]) (by rfl) (by rfl) (bd_hi H1107.out.bx) Try.underlying33 (by rfl) (by kernel_rfl) (by kernel_rfl) ?_; (conv => arg 5; simp only [Act.put, List.setIfInBounds_toArray, List.set_cons_zero, List.set_cons_succ])))
  refine Calls.mono (pairsN _ H1107.out.un) ?_
  rintro e w1108 ⟨rfl, hS⟩
  have H1108 := Lib.hid (St.step H1107.out hS)
  clear hS H1107
  go_wp2_with (first | (refine wpL_load (l := [.int .i64 x.lo.x, .int .i64 x.lo.y, .int .i64 x.lo.z, .int .i64 x.hi.x, .int .i64 x.hi.y, .int .i64 x.hi.z]) (by rfl) (by rfl) H1108.out.bx Try.underlying35 (by rfl) (by kernel_rfl) (by kernel_rfl) ?_; (conv => arg 5; simp only [Act.put, List.setIfInBounds_toArray, List.set_cons_zero, List.set_cons_succ])) | (refine wpL_at (l := [.int .i64 x.lo.x, .int .i64 x.lo.y, .int .i64 x.lo.z]) (by rfl) (by rfl) (bd_lo H1108.out.bx) Try.underlying33 (by rfl) (by kernel_rfl) (by kernel_rfl) ?_; (conv => arg 5; simp only [Act.put, List.setIfInBounds_toArray, List.set_cons_zero, List.set_cons_succ])) | (refine wpL_at (l := [.int .i64 x.hi.x, .int .i64 x.hi.y, .int .i64 x.hi.z]) (by rfl) (by rfl) (bd_hi H1108.out.bx) Try.underlying33 (by rfl) (by kernel_rfl) (by kernel_rfl) ?_; (conv => arg 5; simp only [Act.put, List.setIfInBounds_toArray, List.set_cons_zero, List.set_cons_succ])))
  refine Calls.mono (lenN _ H1108.out.un) ?_
  rintro e w1109 ⟨rfl, hS⟩
  have H1109 := Lib.hid (St.step H1108.out hS)
  clear hS H1108
  go_wp2_with (first | (refine wpL_load (l := [.int .i64 x.lo.x, .int .i64 x.lo.y, .int .i64 x.lo.z, .int .i64 x.hi.x, .int .i64 x.hi.y, .int .i64 x.hi.z]) (by rfl) (by rfl) H1109.out.bx Try.underlying35 (by rfl) (by kernel_rfl) (by kernel_rfl) ?_; (conv => arg 5; simp only [Act.put, List.setIfInBounds_toArray, List.set_cons_zero, List.set_cons_succ])) | (refine wpL_at (l := [.int .i64 x.lo.x, .int .i64 x.lo.y, .int .i64 x.lo.z]) (by rfl) (by rfl) (bd_lo H1109.out.bx) Try.underlying33 (by rfl) (by kernel_rfl) (by kernel_rfl) ?_; (conv => arg 5; simp only [Act.put, List.setIfInBounds_toArray, List.set_cons_zero, List.set_cons_succ])) | (refine wpL_at (l := [.int .i64 x.hi.x, .int .i64 x.hi.y, .int .i64 x.hi.z]) (by rfl) (by rfl) (bd_hi H1109.out.bx) Try.underlying33 (by rfl) (by kernel_rfl) (by kernel_rfl) ?_; (conv => arg 5; simp only [Act.put, List.setIfInBounds_toArray, List.set_cons_zero, List.set_cons_succ])))
  refine Calls.mono (heightN _ H1109.out.un) ?_
  rintro e w11010 ⟨rfl, hS⟩
  have H11010 := Lib.hid (St.step H1109.out hS)
  clear hS H1109
  go_wp2_with (first | (refine wpL_load (l := [.int .i64 x.lo.x, .int .i64 x.lo.y, .int .i64 x.lo.z, .int .i64 x.hi.x, .int .i64 x.hi.y, .int .i64 x.hi.z]) (by rfl) (by rfl) H11010.out.bx Try.underlying35 (by rfl) (by kernel_rfl) (by kernel_rfl) ?_; (conv => arg 5; simp only [Act.put, List.setIfInBounds_toArray, List.set_cons_zero, List.set_cons_succ])) | (refine wpL_at (l := [.int .i64 x.lo.x, .int .i64 x.lo.y, .int .i64 x.lo.z]) (by rfl) (by rfl) (bd_lo H11010.out.bx) Try.underlying33 (by rfl) (by kernel_rfl) (by kernel_rfl) ?_; (conv => arg 5; simp only [Act.put, List.setIfInBounds_toArray, List.set_cons_zero, List.set_cons_succ])) | (refine wpL_at (l := [.int .i64 x.hi.x, .int .i64 x.hi.y, .int .i64 x.hi.z]) (by rfl) (by rfl) (bd_hi H11010.out.bx) Try.underlying33 (by rfl) (by kernel_rfl) (by kernel_rfl) ?_; (conv => arg 5; simp only [Act.put, List.setIfInBounds_toArray, List.set_cons_zero, List.set_cons_succ])))
  rw [rounds_succ]
  go_wp2_with (first | (refine wpL_load (l := [.int .i64 x.lo.x, .int .i64 x.lo.y, .int .i64 x.lo.z, .int .i64 x.hi.x, .int .i64 x.hi.y, .int .i64 x.hi.z]) (by rfl) (by rfl) H11010.out.bx Try.underlying35 (by rfl) (by kernel_rfl) (by kernel_rfl) ?_; (conv => arg 5; simp only [Act.put, List.setIfInBounds_toArray, List.set_cons_zero, List.set_cons_succ])) | (refine wpL_at (l := [.int .i64 x.lo.x, .int .i64 x.lo.y, .int .i64 x.lo.z]) (by rfl) (by rfl) (bd_lo H11010.out.bx) Try.underlying33 (by rfl) (by kernel_rfl) (by kernel_rfl) ?_; (conv => arg 5; simp only [Act.put, List.setIfInBounds_toArray, List.set_cons_zero, List.set_cons_succ])) | (refine wpL_at (l := [.int .i64 x.hi.x, .int .i64 x.hi.y, .int .i64 x.hi.z]) (by rfl) (by rfl) (bd_hi H11010.out.bx) Try.underlying33 (by rfl) (by kernel_rfl) (by kernel_rfl) ?_; (conv => arg 5; simp only [Act.put, List.setIfInBounds_toArray, List.set_cons_zero, List.set_cons_succ])))
  refine Calls.mono (awakeC _) ?_
  rintro e w9 ⟨rfl, hS⟩
  have hB := H11010.out.bel.trans (hS.mono H11010.out.bel.size)
  go_wp2_with fail
  exact bodyPost_ret (v := .bool true) (by simp [results, Try.results7, go_sem]) rfl ⟨rfl, hB⟩
end LNn
end Go.Proofs.Ytbcjnckejkjfeaa
namespace Go.Proofs.Ytbcjnckejkjfeaa
set_option linter.unusedVariables false
open Go.Joins Go.ChangeShapes Go.WideShapes Go.ChangeAt Go.RowKit Go.Deep Go.NP
set_option maxRecDepth 100000 in
theorem treeNoneLifted (os : Os) (started : os.Started) (H : Type) (enc : TypeId × Value → H) :
    ReturnsInHanded {} Try.checked os 7 .any (Rows.treeNoneSpec.pre6 enc Try.prog Try.f7 Rows.treeNoneRow.domain false) (Rows.treeNoneSpec.post enc Try.prog Try.f7 false true false false) := by
  refine returnsInHanded_of_change (C := Try.checked) own started (by kernel_rfl) Try.func7
    (ChangeSpec.witness6 (enc := enc) (C := Try.checked) false ⟨#[], #[.int .i64 0, .agg #[.int .i64 bzero.lo.x, .int .i64 bzero.lo.y, .int .i64 bzero.lo.z, .int .i64 bzero.hi.x, .int .i64 bzero.hi.y, .int .i64 bzero.hi.z]], []⟩ 8 (by kernel_rfl) (by kernel_rfl) (by kernel_rfl) (by kernel_rfl)) ?_
  intro W base args ds gs before hval0 hW hcnd _
  have hval : ∀ (j : Nat) t v, Try.f7.params[j]? = some t → args[j]? = some v → Value.okWide Try.prog W .any base t v := hval0
  have hW' := hW
  obtain ⟨p, q, hA0, hV, rfl, hfz, hnd⟩ := hW
  have hA : DataW.TrodAll enc Try.prog W 0 (fun _ => true) true Try.f7.params.toList args.toList ds p := hA0
  rw [Try.params7] at hA hval
  obtain ⟨v0, vs0, d0, ds0, p0, q0, hargs, rfl, rfl, h0, r0⟩ := trodAll_cons hA
  obtain ⟨v1, vs1, d1, ds1, p1, q1, rfl, rfl, rfl, h1, r1⟩ := trodAll_cons r0
  obtain ⟨rfl, rfl, rfl⟩ := trodAll_nil r1
  obtain rfl : args = #[v0, v1] := by cases args; simp_all
  obtain ⟨rfl, rfl⟩ := trodVars_none hV
  have k1 := h1
  have lt1 : ∀ x ∈ p1, x.block < W.heap.size := by obtain ⟨m, hm⟩ := k1; exact DataW.trod_lt m _ _ _ hm
  obtain ⟨a0, rfl, rfl, rfl, w0⟩ := open_int Try.underlying3 (hval 0 3 v0 rfl rfl) h0
  obtain ⟨a1, rfl⟩ := open_bd (hval 1 35 v1 rfl rfl) h1
  clear hA0 hval0
  refine Calls.mono (LNn.law a0 a1 w0 W) fun e W' ⟨he, bel⟩ => ?_
  subst he
  exact ⟨_, rfl, _, _, _, [], _, [], hW', trodAll_mk1 (shut_bool Try.underlying4 _), (trodAll_cons_mk (shut_int Try.underlying3 w0) (trodAll_cons_mk (Below.trod laidOut (by kernel_rfl) (of_decide_eq_true (by kernel_rfl)) k1 bel lt1) trodAll_mk0)), rfl, bel.frame _, fun h => by cases h⟩
theorem treeNone_holds : Rows.TreeNoneSaid :=
  OpenClaim.holds_of_wide 7 Try.f7 rfl rfl rfl rfl rfl rfl rfl ⟨rfl, rfl, rfl, rfl, rfl⟩ rfl rfl rfl rfl rfl (by kernel_rfl) Try.func7 (by kernel_rfl)
    (of_decide_eq_true (by kernel_rfl)) (by unfold Func.isWrapper; first | (rw [if_pos (by decide +kernel)]; kernel_rfl) | (rw [if_neg (by decide +kernel)]; exact ⟨rfl, rfl⟩))
    (fun os started H enc _ => treeNoneLifted os started H enc)
end Go.Proofs.Ytbcjnckejkjfeaa
