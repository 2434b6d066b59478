/- To whom a way comes: Way, its walk. Condition: the tree is there. The same lists are told to be the same: the walks. Condition: they are the same, and not too long. A way tells no more than the bounds that the ends' own bound meets: the law's walk. Condition: the arguments are as told. A way tells no more than the bounds that the ends' own bound meets, the same the other way round, and one that is dropped is told no more. No condition. -/
import Derived.Test.YtbcjnckejkjfeaaQTb
import Derived.Test.YtbcjnckejkjfeaaLaw3
import Derived.Test.YtbcjnckejkjfeaaBnd6
namespace Go.Proofs.Ytbcjnckejkjfeaa
set_option linter.unusedVariables false
set_option linter.unusedSimpArgs false
open Go.RowKit Go.NP
namespace TWy
open TrP TrW TrC TrA TrF TrG TrX TrY TrK THg TCt QVl TrE TrI TAs TFp TFd TSr TMe
theorem cf42 (args : Array Value) (w1 : World) : (callFunc 42 args).run Try.prog w1 = .ok (.enter 42 args) w1 := enters Try.func42 (by kernel_rfl) (by kernel_rfl) args w1
theorem hitC (a : Bd) (f t : Pt) (w : World) : RetB Try.prog 43 #[.agg #[.int .i64 a.lo.x, .int .i64 a.lo.y, .int .i64 a.lo.z, .int .i64 a.hi.x, .int .i64 a.hi.y, .int .i64 a.hi.z], .agg #[.int .i64 f.x, .int .i64 f.y, .int .i64 f.z], .agg #[.int .i64 t.x, .int .i64 t.y, .int .i64 t.z]] w (.bool (hitS a f t)) := by
  by_cases h : a.ok ∧ f.ok ∧ t.ok
  · exact hitY a f t h.1 h.2.1 h.2.2 w
  · rw [hit_no h]; exact hitN a f t h w
theorem gcheckV (p : Pt) (w : World) : RetB Try.prog 30 #[.agg #[.int .i64 p.x, .int .i64 p.y, .int .i64 p.z]] w (.int .i64 (errIf p.ok)) := by
  by_cases h : p.ok
  · rw [errIf_pos h]; exact gcheck_ok p w h
  · rw [errIf_neg h]; exact gcheck_no p w h
set_option maxRecDepth 100000 in
set_option maxHeartbeats 2000000 in
theorem m2C {g1 g2 : Nat} {f t : Pt} (b : Bd) (u : World) (h : Box u g1 [.int .i64 f.x, .int .i64 f.y, .int .i64 f.z] 33) (h' : Box u g2 [.int .i64 t.x, .int .i64 t.y, .int .i64 t.z] 33) : RetB Try.prog 42 #[.agg #[.int .i64 b.lo.x, .int .i64 b.lo.y, .int .i64 b.lo.z, .int .i64 b.hi.x, .int .i64 b.hi.y, .int .i64 b.hi.z], .pointer (some ⟨g1, 0, none⟩), .pointer (some ⟨g2, 0, none⟩)] u (.bool (hitS b f t)) := by
  have hb : Below u.heap.size u (u.alloc (.cells #[.int .i64 b.lo.x, .int .i64 b.lo.y, .int .i64 b.lo.z, .int .i64 b.hi.x, .int .i64 b.hi.y, .int .i64 b.hi.z] 35)) := (Below.refl _ _).alloc (Nat.le_refl _) _
  have H1 := Lib.hid (h.step hb); have H3 := Lib.hid (h'.step hb)
  have H2 := Lib.hid (show Box (u.alloc (.cells #[.int .i64 b.lo.x, .int .i64 b.lo.y, .int .i64 b.lo.z, .int .i64 b.hi.x, .int .i64 b.hi.y, .int .i64 b.hi.z] 35)) u.heap.size [.int .i64 b.lo.x, .int .i64 b.lo.y, .int .i64 b.lo.z, .int .i64 b.hi.x, .int .i64 b.hi.y, .int .i64 b.hi.z] 35 from Box.new rfl)
  clear h h'
  unfold RetB
  go_enter Try.func42, Try.ntmps42
  go_wp2_with (first | (refine wpL_load (l := [.int .i64 b.lo.x, .int .i64 b.lo.y, .int .i64 b.lo.z, .int .i64 b.hi.x, .int .i64 b.hi.y, .int .i64 b.hi.z]) (by rfl) (by rfl) H2.out Try.underlying35 (by rfl) (by kernel_rfl) (by kernel_rfl) ?_; (conv => arg 5; simp only [Act.put, List.setIfInBounds_toArray, List.set_cons_zero, List.set_cons_succ])) | (refine wpL_load (l := [.int .i64 f.x, .int .i64 f.y, .int .i64 f.z]) (by rfl) (by rfl) H1.out Try.underlying33 (by rfl) (by kernel_rfl) (by kernel_rfl) ?_; (conv => arg 5; simp only [Act.put, List.setIfInBounds_toArray, List.set_cons_zero, List.set_cons_succ])) | (refine wpL_load (l := [.int .i64 t.x, .int .i64 t.y, .int .i64 t.z]) (by rfl) (by rfl) H3.out Try.underlying33 (by rfl) (by kernel_rfl) (by kernel_rfl) ?_; (conv => arg 5; simp only [Act.put, List.setIfInBounds_toArray, List.set_cons_zero, List.set_cons_succ])))
  refine (hitC b f t _).mono ?_
  rintro e w1 ⟨rfl, hS⟩
  go_wp2_with fail
  exact bodyPost_ret (v := .bool (hitS b f t)) (by simp [results, Try.results42, go_sem, *]) rfl ⟨rfl, hb.trans (hS.mono hb.size)⟩
/-- The numbers to whose bounds a way comes. -/
def wayL (L : List En) (f t : Pt) : List Int := tell (fun b => hitS b f t) L
theorem wayL_no {L : List En} {f t : Pt} (h : ¬ (f.ok ∧ t.ok)) : wayL L f t = [] := by
  unfold wayL tell
  rw [List.filter_eq_nil_iff.2]; · rfl
  intro e _ hm
  have h2 : hitS e.b f t = true := hm
  rw [hit_no fun q => h q.2] at h2
  cases h2
set_option maxRecDepth 100000 in
set_option maxHeartbeats 4000000 in
theorem wayC {p K : Nat} {mg : Int} {f t : Pt} {L : List En} {S : Nat → Prop} (w : World) (h : TI w p mg L S K) (hK : K < 80000) :
    Calls Try.prog 21 #[.pointer (some ⟨p, 0, none⟩), .agg #[.int .i64 f.x, .int .i64 f.y, .int .i64 f.z], .agg #[.int .i64 t.x, .int .i64 t.y, .int .i64 t.z]] w fun e w' => (∃ v, e = .returned (.tuple #[v, .int .i64 (errIf (f.ok ∧ t.ok))]) ∧ OwnV w' w.heap.size 3 v (iv (wayL L f t))) ∧ Below w.heap.size w w' := by
  have hb1 : Below w.heap.size w (w.alloc (.cells #[.int .i64 f.x, .int .i64 f.y, .int .i64 f.z] 33)) := (Below.refl _ _).alloc (Nat.le_refl _) _
  have hb : Below w.heap.size w ((w.alloc (.cells #[.int .i64 f.x, .int .i64 f.y, .int .i64 f.z] 33)).alloc (.cells #[.int .i64 t.x, .int .i64 t.y, .int .i64 t.z] 33)) := hb1.alloc (by simp) _
  have h1 : Box ((w.alloc (.cells #[.int .i64 f.x, .int .i64 f.y, .int .i64 f.z] 33)).alloc (.cells #[.int .i64 t.x, .int .i64 t.y, .int .i64 t.z] 33)) w.heap.size [.int .i64 f.x, .int .i64 f.y, .int .i64 f.z] 33 := (Box.new rfl).alloc _
  have h2 : Box ((w.alloc (.cells #[.int .i64 f.x, .int .i64 f.y, .int .i64 f.z] 33)).alloc (.cells #[.int .i64 t.x, .int .i64 t.y, .int .i64 t.z] 33)) (w.heap.size + 1) [.int .i64 t.x, .int .i64 t.y, .int .i64 t.z] 33 := Box.new (by simp)
  have hti := h.step hb
  have hm : ((w.alloc (.cells #[.int .i64 f.x, .int .i64 f.y, .int .i64 f.z] 33)).alloc (.cells #[.int .i64 t.x, .int .i64 t.y, .int .i64 t.z] 33)).cell? ⟨p, 0, none⟩ = some (.bool true) ∧ p < ((w.alloc (.cells #[.int .i64 f.x, .int .i64 f.y, .int .i64 f.z] 33)).alloc (.cells #[.int .i64 t.x, .int .i64 t.y, .int .i64 t.z] 33)).heap.size := by
    obtain ⟨T, F, al, lv, b, c, pl, h0, rfl⟩ := hti
    have := TO.madec h0.ts.tx.to; rw [h0.p_] at this; exact ⟨this, h0.lt⟩
  have AS := Lib.hid (askedC (n := 1) (x := bzero) _ hm.1 hm.2)
  have e1 : askS 1 bzero = 0 := by decide
  rw [e1] at AS
  have H1 := Lib.hid h1; have H2 := Lib.hid h2; have HTI := Lib.hid hti; have HBE := Lib.hid hb
  clear h h1 h2 hti hm hb hb1
  obtain ⟨er, her⟩ : ∃ er, errIf (f.ok ∧ t.ok) = er := ⟨_, rfl⟩
  obtain ⟨ws, hws⟩ : ∃ ws, wayL L f t = ws := ⟨_, rfl⟩
  rw [her, hws]
  go_enter Try.func21, Try.ntmps21
  go_wp2_with fail
  refine AS.out.mono ?_
  rintro e w1 ⟨rfl, hS⟩
  have h1 := H1.out.step hS
  have h2 := H2.out.step hS
  have hti := HTI.out.step hS
  have HW := Lib.hid (HBE.out.trans (hS.mono HBE.out.size))
  clear AS H1 H2 HTI HBE hS
  have H1 := Lib.hid h1; have H2 := Lib.hid h2; have HTI := Lib.hid hti
  clear h1 h2 hti
  by_cases hf : f.ok
  · by_cases ht : t.ok
    · obtain rfl : er = 0 := by rw [← her, errIf_pos ⟨hf, ht⟩]
      go_wp2_with (refine wpL_load (l := [.int .i64 f.x, .int .i64 f.y, .int .i64 f.z]) (by rfl) (by rfl) H1.out Try.underlying33 (by rfl) (by kernel_rfl) (by kernel_rfl) ?_; (conv => arg 5; simp only [Act.put, List.setIfInBounds_toArray, List.set_cons_zero, List.set_cons_succ]))
      refine Calls.mono (gcheck_ok f w1 hf) ?_
      rintro e w2 ⟨rfl, hS2⟩
      have H2b := Lib.hid (H2.out.step hS2)
      go_wp2_with (refine wpL_load (l := [.int .i64 t.x, .int .i64 t.y, .int .i64 t.z]) (by rfl) (by rfl) H2b.out Try.underlying33 (by rfl) (by kernel_rfl) (by kernel_rfl) ?_; (conv => arg 5; simp only [Act.put, List.setIfInBounds_toArray, List.set_cons_zero, List.set_cons_succ]))
      refine Calls.mono (gcheck_ok t w2 ht) ?_
      rintro e w3 ⟨rfl, hS3⟩
      have g1 := (H1.out.step hS2).step hS3
      have g2 := H2b.out.step hS3
      have gt := (HTI.out.step hS2).step hS3
      have HW3 := Lib.hid ((HW.out.trans (hS2.mono HW.out.size)).trans (hS3.mono (by have := HW.out.size; have := hS2.size; omega)))
      clear H1 H2 HTI HW H2b hS2 hS3
      go_wp2_with fail
      refine (findTI (q := fun b => hitS b f t) (fid := 42) (ca := #[.pointer (some ⟨w.heap.size, 0, none⟩), .pointer (some ⟨w.heap.size + 1, 0, none⟩)]) w3 gt hK (fun F b q1 q2 => hit_more q1 q2) cf42 (fun b u hu => m2C b u (g1.step hu) (g2.step hu))).mono ?_
      rintro e w4 ⟨⟨v, rfl, hv⟩, hS4⟩
      have FIN := Lib.hid (show (∃ v_1, Ending.returned (.tuple #[v, .int .i64 0]) = .returned (.tuple #[v_1, .int .i64 0]) ∧ OwnV w4 w.heap.size 3 v_1 (iv ws)) ∧ Below w.heap.size w w4 from ⟨⟨v, rfl, by rw [← hws]; exact hv.mono HW3.out.size⟩, HW3.out.trans (hS4.mono HW3.out.size)⟩)
      clear hv hS4 HW3 g1 g2 gt
      go_wp2_with fail
      exact bodyPost_ret (v := .tuple #[v, .int .i64 0]) (by simp [results, Try.results21, go_sem]) rfl FIN.out
    · obtain rfl : er = 7 := by rw [← her, errIf_neg fun q => ht q.2]
      obtain rfl : ws = [] := by rw [← hws, wayL_no fun q => ht q.2]
      go_wp2_with (refine wpL_load (l := [.int .i64 f.x, .int .i64 f.y, .int .i64 f.z]) (by rfl) (by rfl) H1.out Try.underlying33 (by rfl) (by kernel_rfl) (by kernel_rfl) ?_; (conv => arg 5; simp only [Act.put, List.setIfInBounds_toArray, List.set_cons_zero, List.set_cons_succ]))
      refine Calls.mono (gcheck_ok f w1 hf) ?_
      rintro e w2 ⟨rfl, hS2⟩
      have H2b := Lib.hid (H2.out.step hS2)
      go_wp2_with (refine wpL_load (l := [.int .i64 t.x, .int .i64 t.y, .int .i64 t.z]) (by rfl) (by rfl) H2b.out Try.underlying33 (by rfl) (by kernel_rfl) (by kernel_rfl) ?_; (conv => arg 5; simp only [Act.put, List.setIfInBounds_toArray, List.set_cons_zero, List.set_cons_succ]))
      refine Calls.mono (gcheck_no t w2 ht) ?_
      rintro e w3 ⟨rfl, hS3⟩
      go_wp2_with fail
      exact bodyPost_ret (v := .tuple #[.slice none 0 0, .int .i64 7]) (by simp [results, Try.results21, go_sem]) rfl ⟨⟨.slice none 0 0, rfl, OwnV.nil _ _ _⟩, (HW.out.trans (hS2.mono HW.out.size)).trans (hS3.mono (by have := HW.out.size; have := hS2.size; omega))⟩
  · obtain rfl : er = 7 := by rw [← her, errIf_neg fun q => hf q.1]
    obtain rfl : ws = [] := by rw [← hws, wayL_no fun q => hf q.1]
    go_wp2_with (refine wpL_load (l := [.int .i64 f.x, .int .i64 f.y, .int .i64 f.z]) (by rfl) (by rfl) H1.out Try.underlying33 (by rfl) (by kernel_rfl) (by kernel_rfl) ?_; (conv => arg 5; simp only [Act.put, List.setIfInBounds_toArray, List.set_cons_zero, List.set_cons_succ]))
    refine Calls.mono (gcheck_no f w1 hf) ?_
    rintro e w2 ⟨rfl, hS2⟩
    go_wp2_with fail
    exact bodyPost_ret (v := .tuple #[.slice none 0 0, .int .i64 7]) (by simp [results, Try.results21, go_sem]) rfl ⟨⟨.slice none 0 0, rfl, OwnV.nil _ _ _⟩, HW.out.trans (hS2.mono HW.out.size)⟩
end TWy
end Go.Proofs.Ytbcjnckejkjfeaa
namespace Go.Proofs.Ytbcjnckejkjfeaa
set_option linter.unusedVariables false
set_option linter.unusedSimpArgs false
open Go.RowKit Go.NP
namespace TSm
open TrX QVl
set_option maxRecDepth 100000 in
set_option maxHeartbeats 4000000 in
theorem sameIntsC {v u : Value} {base base' : Nat} {l : List Int} (w : World) (h : OwnV w base 3 v (iv l)) (h' : OwnV w base' 3 u (iv l)) (hl : l.length ≤ 100000) : RetB Try.prog 22 #[v, u] w (.bool true) := by
  obtain ⟨A, cap, rfl, hs, _, _⟩ := h.sl
  obtain ⟨A', cap', rfl, hs', _, _⟩ := h'.sl
  have elen : (iv l).length = l.length := iv_len l
  rw [elen] at hs hs' ⊢
  clear h h'
  obtain ⟨m, hm⟩ : ∃ m, l.length = m := ⟨_, rfl⟩
  have HM := Lib.hid hm; have HS := Lib.hid hs; have HS' := Lib.hid hs'
  rw [hm]
  clear hs hs'
  unfold RetB
  go_enter Try.func22, Try.ntmps22
  go_wp2_with fail
  go_loopw [5] (fun i wr => ∃ (k : Nat), i = .int .i64 (k : Int) ∧ k ≤ m ∧ Below w.heap.size w wr) (fun i _ => m - (RowKit.intOf i).toNat)
  case atStart => exact ⟨0, rfl, Nat.zero_le _, Below.refl _ _⟩
  case round =>
    obtain ⟨k, rfl, hk, hS⟩ := hrel
    by_cases hlt : k < m
    · have t1 : decide ((k : Int) < (m : Int)) = true := by simpa using hlt
      obtain ⟨x, hx⟩ : ∃ x, l[k]? = some x := ⟨_, List.getElem?_eq_getElem (by omega)⟩
      obtain ⟨b, off, rfl, hb, hcell⟩ := HS.out.2 (by omega)
      obtain ⟨b', off', rfl, hb', hcell'⟩ := HS'.out.2 (by omega)
      have cx : wr.cell? ⟨b, off + k, none⟩ = some (.int .i64 x) := by rw [(bcell hS).1 _ _ hb]; exact hcell k _ (by unfold iv; rw [List.getElem?_map, hx]; rfl)
      have cx' : wr.cell? ⟨b', off' + k, none⟩ = some (.int .i64 x) := by rw [(bcell hS).1 _ _ hb']; exact hcell' k _ (by unfold iv; rw [List.getElem?_map, hx]; rfl)
      have hbw : b < wr.heap.size := by have := hS.size; omega
      have hbw' : b' < wr.heap.size := by have := hS.size; omega
      have k0 : 0 ≤ (k : Int) ∧ (k : Int) < (m : Int) := by omega
      have v1 : IntKind.i64.wrap ((k : Int) + 1) = ((k + 1 : Nat) : Int) := by rw [IntKind.wrap_i64]; omega
      have HSx := Lib.hid hS
      clear hcell hcell' hS
      go_wp2_with fail
      refine wp_region_ph [(9, .free [])] (by kernel_rfl) (by kernel_rfl) ?_
      refine Ph.belowd ?_
      simp only [List.drop_succ_cons, List.drop_zero, List.take_succ_cons, List.take_zero, Nat.reduceSub, Nat.sub_zero]
      iterate 9 (refine SeqO.val (v := ?_) (by rfl) (by rfl) (fun w1 hS => ?_) ?_; rotate_left; (· obtain ⟨hc, hcf⟩ := bcell hS; go_simp; try with_reducible rfl); simp only [Act.put, List.setIfInBounds_toArray, List.set_cons_zero, List.set_cons_succ])
      refine SeqO.nil0 fun w8 hS8 => ?_
      refine Ph.last ?_
      simp only [List.drop_succ_cons, List.drop_zero, List.take_succ_cons, List.take_zero, Nat.reduceSub, Nat.sub_zero]
      refine wpList_nil ?_
      have hS9 := HSx.out.trans (hS8.mono HSx.out.size)
      clear cx cx' hbw hbw' HSx hS8
      go_wp2_with fail
      exact ⟨⟨k + 1, rfl, by omega, hS9⟩, by simp [RowKit.intOf]; omega⟩
    · obtain rfl : k = m := by omega
      have t1 : decide ((k : Int) < (k : Int)) = false := by simp
      go_wp2_with fail
      exact bodyPost_ret (v := .bool true) (by simp [results, Try.results22, go_sem]) rfl ⟨rfl, hS⟩
set_option maxRecDepth 100000 in
set_option maxHeartbeats 4000000 in
theorem samePairsC {v u : Value} {base base' : Nat} {l : List Pr} (w : World) (h : OwnS w base v l) (h' : OwnS w base' u l) (hl : l.length ≤ 100000) : RetB Try.prog 23 #[v, u] w (.bool true) := by
  obtain ⟨A, cap, rfl, hs⟩ := h.sl
  obtain ⟨A', cap', rfl, hs'⟩ := h'.sl
  clear h h'
  obtain ⟨m, hm⟩ : ∃ m, l.length = m := ⟨_, rfl⟩
  have HM := Lib.hid hm; have HS := Lib.hid hs; have HS' := Lib.hid hs'
  rw [hm]
  clear hs hs'
  unfold RetB
  go_enter Try.func23, Try.ntmps23
  go_wp2_with fail
  go_loopw [5] (fun i wr => ∃ (k : Nat), i = .int .i64 (k : Int) ∧ k ≤ m ∧ Below w.heap.size w wr) (fun i _ => m - (RowKit.intOf i).toNat)
  case atStart => exact ⟨0, rfl, Nat.zero_le _, Below.refl _ _⟩
  case round =>
    obtain ⟨k, rfl, hk, hS⟩ := hrel
    by_cases hlt : k < m
    · have t1 : decide ((k : Int) < (m : Int)) = true := by simpa using hlt
      obtain ⟨x, hx⟩ : ∃ x, l[k]? = some x := ⟨_, List.getElem?_eq_getElem (by omega)⟩
      obtain ⟨b, off, rfl, hb, hcell⟩ := HS.out.2 (by omega)
      obtain ⟨b', off', rfl, hb', hcell'⟩ := HS'.out.2 (by omega)
      have HA := Lib.hid (show At' wr b (off + k * 2) [.int .i64 x.a, .int .i64 x.b] from (hcell k x hx).step hb hS)
      have HA' := Lib.hid (show At' wr b' (off' + k * 2) [.int .i64 x.a, .int .i64 x.b] from (hcell' k x hx).step hb' hS)
      have HB := Lib.hid (show b < wr.heap.size by have := hS.size; omega)
      have HB' := Lib.hid (show b' < wr.heap.size by have := hS.size; omega)
      have k0 : 0 ≤ (k : Int) ∧ (k : Int) < (m : Int) := by omega
      have v1 : IntKind.i64.wrap ((k : Int) + 1) = ((k + 1 : Nat) : Int) := by rw [IntKind.wrap_i64]; omega
      have HSx := Lib.hid hS
      clear hcell hcell' hS
      go_wp2_with fail
      refine wp_region_ph [(9, .free [])] (by kernel_rfl) (by kernel_rfl) ?_
      refine Ph.belowd ?_
      simp only [List.drop_succ_cons, List.drop_zero, List.take_succ_cons, List.take_zero, Nat.reduceSub, Nat.sub_zero]
      iterate 3 (refine SeqO.val (v := ?_) (by rfl) (by rfl) (fun w1 hS => ?_) ?_; rotate_left; (· obtain ⟨hc, hcf⟩ := bcell hS; go_simp; try with_reducible rfl); simp only [Act.put, List.setIfInBounds_toArray, List.set_cons_zero, List.set_cons_succ])
      refine SeqO.at (l := [.int .i64 x.a, .int .i64 x.b]) (by rfl) (by rfl) HB.out HA.out Try.underlying64 (by rfl) (by kernel_rfl) (by rfl) (by rfl) ?_
      simp only [Act.put, List.setIfInBounds_toArray, List.set_cons_zero, List.set_cons_succ]
      iterate 3 (refine SeqO.val (v := ?_) (by rfl) (by rfl) (fun w1 hS => ?_) ?_; rotate_left; (· obtain ⟨hc, hcf⟩ := bcell hS; go_simp; try with_reducible rfl); simp only [Act.put, List.setIfInBounds_toArray, List.set_cons_zero, List.set_cons_succ])
      refine SeqO.at (l := [.int .i64 x.a, .int .i64 x.b]) (by rfl) (by rfl) HB'.out HA'.out Try.underlying64 (by rfl) (by kernel_rfl) (by rfl) (by rfl) ?_
      simp only [Act.put, List.setIfInBounds_toArray, List.set_cons_zero, List.set_cons_succ]
      iterate 1 (refine SeqO.val (v := ?_) (by rfl) (by rfl) (fun w1 hS => ?_) ?_; rotate_left; (· obtain ⟨hc, hcf⟩ := bcell hS; go_simp; try with_reducible rfl); simp only [Act.put, List.setIfInBounds_toArray, List.set_cons_zero, List.set_cons_succ])
      refine SeqO.nil0 fun w8 hS8 => ?_
      refine Ph.last ?_
      simp only [List.drop_succ_cons, List.drop_zero, List.take_succ_cons, List.take_zero, Nat.reduceSub, Nat.sub_zero]
      refine wpList_nil ?_
      have hS9 := HSx.out.trans (hS8.mono HSx.out.size)
      clear HA HA' HB HB' HSx hS8
      go_wp2_with fail
      exact ⟨⟨k + 1, rfl, by omega, hS9⟩, by simp [RowKit.intOf]; omega⟩
    · obtain rfl : k = m := by omega
      have t1 : decide ((k : Int) < (k : Int)) = false := by simp
      go_wp2_with fail
      exact bodyPost_ret (v := .bool true) (by simp [results, Try.results23, go_sem]) rfl ⟨rfl, hS⟩
end TSm
end Go.Proofs.Ytbcjnckejkjfeaa
namespace Go.Proofs.Ytbcjnckejkjfeaa
set_option linter.unusedVariables false
set_option linter.unusedSimpArgs false
open Go.RowKit Go.NP
namespace LSu
open TrX QVl TrE TrI TAs TPu TDr TNw TMe TPp TPr TAw TFi TWy TSm
open OpL (SlB bdl)
theorem pAt_two {w : World} {b : Nat} {p q : Pt} {T : TypeId} (h : Box w b [.int .i64 p.x, .int .i64 p.y, .int .i64 p.z, .int .i64 q.x, .int .i64 q.y, .int .i64 q.z] T) : PAt w b 0 [p, q] := by
  intro k x hx
  rcases k with _ | _ | k
  · obtain rfl : p = x := by simpa using hx
    exact ⟨h.cell 0, h.cell 1, h.cell 2⟩
  · obtain rfl : q = x := by simpa using hx
    exact ⟨h.cell 3, h.cell 4, h.cell 5⟩
  · simp at hx
theorem way_rev (L : List En) (f t : Pt) : wayL L t f = wayL L f t := by
  unfold wayL tell
  rw [List.filter_congr fun e _ => by show hitS e.b t f = hitS e.b f t; exact hit_rev _ _ _]
theorem way_meet {L : List En} {f t : Pt} {x : Int} (h : x ∈ wayL L f t) : (meetL L (ends f t)).contains x = true := by
  rw [List.contains_iff_mem]
  unfold wayL tell at h
  unfold meetL tell
  obtain ⟨e, he, rfl⟩ := List.mem_map.1 h
  obtain ⟨h1, h2⟩ := List.mem_filter.1 he
  exact List.mem_map.2 ⟨e, List.mem_filter.2 ⟨h1, hit_meet h2⟩, rfl⟩
theorem drop_gone {L : List En} {n : Int} (hr : Rise L) (hn : ∀ e ∈ L, 1 ≤ e.n ∧ e.n ≤ 4096) : isIn (dropL L n) n = false := by
  unfold dropL dropE
  by_cases h : 1 ≤ n ∧ n ≤ 4096
  · rw [if_pos h]
    cases hi : isIn L n with
    | true => rw [if_pos rfl, if_pos rfl]; exact del_out hr hi
    | false => rw [if_neg (by decide)]; exact hi
  · rw [if_neg h, if_neg (by decide)]
    refine not_in.2 fun e he hen => h ?_
    rw [← hen]; exact hn e he
theorem tell_no {L : List En} {q : Bd → Bool} {n : Int} (h : isIn L n = false) : (tell q L).contains n = false := by
  rw [← Bool.not_eq_true, List.contains_iff_mem]
  unfold tell
  intro hm
  obtain ⟨e, he, hen⟩ := List.mem_map.1 hm
  exact not_in.1 h e (List.mem_filter.1 he).1 hen
theorem tell_less {L : List En} {q : Bd → Bool} {n : Int} (hr : Rise L) : (tell q (dropL L n)).length ≤ (tell q L).length ∧ (tell q L).length ≤ (tell q (dropL L n)).length + 1 := by
  unfold dropL
  split
  · rename_i h
    have hi : isIn L n = true := by
      unfold dropE at h
      split at h
      · split at h
        · rename_i q; exact q
        · cases h
      · cases h
    obtain ⟨e, _, _, hp⟩ := del_perm hr hi
    have h1 : (tell q L).length = (tell q (e :: del L n)).length := by
      unfold tell; rw [List.length_map, List.length_map]; exact (hp.filter _).length_eq
    rw [h1]
    unfold tell
    rw [List.length_map, List.length_map, List.filter_cons]
    split
    · rw [List.length_cons]; omega
    · omega
  · omega
structure SQ (w0 w : World) (g5 g6 p K : Nat) (f t : Pt) (mg : Int) (L : List En) (S : Nat → Prop) : Prop where
  b5 : Box w g5 [.int .i64 f.x, .int .i64 f.y, .int .i64 f.z] 33
  b6 : Box w g6 [.int .i64 t.x, .int .i64 t.y, .int .i64 t.z] 33
  ti : TI w p mg L S K
  nw : New w0 w S
  n5 : ¬ S g5
  n6 : ¬ S g6
theorem SQ.step {w0 w w' : World} {g5 g6 p K : Nat} {f t : Pt} {mg : Int} {L : List En} {S : Nat → Prop} (h : SQ w0 w g5 g6 p K f t mg L S) (hS : Below w.heap.size w w') : SQ w0 w' g5 g6 p K f t mg L S :=
  ⟨h.b5.step hS, h.b6.step hS, h.ti.step hS, h.nw.step hS, h.n5, h.n6⟩
theorem SQ.aft {w0 w w' : World} {g5 g6 p K K' : Nat} {f t : Pt} {mg : Int} {L L' : List En} {S S' : Nat → Prop} (h : SQ w0 w g5 g6 p K f t mg L S) (ht : TI w' p mg L' S' K') (ha : Aft2 w w' S S') : SQ w0 w' g5 g6 p K' f t mg L' S' := by
  have l5 := h.b5.lt; have l6 := h.b6.lt
  exact ⟨Box.block h.b5 (ha.fr.block _ l5 h.n5), Box.block h.b6 (ha.fr.block _ l6 h.n6), ht, h.nw.aft ha, fun q => (ha.ow _ q).elim h.n5 (by omega), fun q => (ha.ow _ q).elim h.n6 (by omega)⟩
theorem ents_len {mg : Int} : ∀ (l : List Bd) (i : Int), (ents mg l i).length ≤ l.length
  | [], i => Nat.le_refl _
  | x :: r, i => by
    have := ents_len (mg := mg) r (i + 1)
    rw [ents_cons, List.length_append, List.length_cons]
    split <;> simp <;> omega
theorem tell_len (q : Bd → Bool) (L : List En) : (tell q L).length ≤ L.length := by
  unfold tell; rw [List.length_map]; exact List.length_filter_le _ _
set_option maxRecDepth 100000 in
set_option maxHeartbeats 8000000 in
theorem lawGo {A : Option Addr} {n cap : Nat} {l : List Bd} {f t : Pt} {k : Int} (w : World) (hs : SlB w A n l) (hn : n ≤ 40) : RetB Try.prog 6 #[.slice A n cap, .agg #[.int .i64 f.x, .int .i64 f.y, .int .i64 f.z], .agg #[.int .i64 t.x, .int .i64 t.y, .int .i64 t.z], .int .i64 k] w (.bool true) := by
  have hb1 : Below w.heap.size w (w.alloc (.cells #[.int .i64 f.x, .int .i64 f.y, .int .i64 f.z] 33)) := (Below.refl _ _).alloc (Nat.le_refl _) _
  have hb : Below w.heap.size w ((w.alloc (.cells #[.int .i64 f.x, .int .i64 f.y, .int .i64 f.z] 33)).alloc (.cells #[.int .i64 t.x, .int .i64 t.y, .int .i64 t.z] 33)) := hb1.alloc (by simp) _
  have h1 : Box ((w.alloc (.cells #[.int .i64 f.x, .int .i64 f.y, .int .i64 f.z] 33)).alloc (.cells #[.int .i64 t.x, .int .i64 t.y, .int .i64 t.z] 33)) w.heap.size [.int .i64 f.x, .int .i64 f.y, .int .i64 f.z] 33 := (Box.new rfl).alloc _
  have h2 : Box ((w.alloc (.cells #[.int .i64 f.x, .int .i64 f.y, .int .i64 f.z] 33)).alloc (.cells #[.int .i64 t.x, .int .i64 t.y, .int .i64 t.z] 33)) (w.heap.size + 1) [.int .i64 t.x, .int .i64 t.y, .int .i64 t.z] 33 := Box.new (by simp)
  have HS := Lib.hid (hs.step hb)
  have hln := hs.1
  have t2 : decide ((40 : Int) < (n : Int)) = false := decide_eq_false (by omega)
  clear hs hb1
  obtain ⟨L, hL⟩ : ∃ L, ents 3 l 1 = L := ⟨_, rfl⟩
  have hLl : L.length ≤ 40 := by rw [← hL]; have := ents_len (mg := 3) l 1; omega
  unfold RetB
  go_enter Try.func6, Try.ntmps6
  go_wp2_with fail
  revert hb h1 h2 HS
  generalize (w.alloc (.cells #[.int .i64 f.x, .int .i64 f.y, .int .i64 f.z] 33)).alloc (.cells #[.int .i64 t.x, .int .i64 t.y, .int .i64 t.z] 33) = w1
  intro hb h1 h2 HS
  refine (filledC (mg := 3) w1 (by omega) HS.out (by omega)).mono ?_
  rintro e w2 ⟨p, S, rfl, hti, n2⟩
  rw [hL] at hti
  have Q2 : SQ w w2 w.heap.size (w.heap.size + 1) p (4 * n) f t 3 L S := by
    have l1 := h1.lt; have l2 := h2.lt
    exact ⟨h1.step n2.bel, h2.step n2.bel, hti, ⟨hb.trans (n2.bel.mono hb.size), fun q hq => by have := n2.new q hq; have := hb.size; omega⟩, fun q => by have := n2.new _ q; omega, fun q => by have := n2.new _ q; omega⟩
  clear hti n2 h1 h2 hb HS
  obtain ⟨g5, hg5⟩ : ∃ g, w.heap.size = g := ⟨_, rfl⟩
  obtain ⟨g6, hg6⟩ : ∃ g, w.heap.size + 1 = g := ⟨_, rfl⟩
  rw [hg6, hg5] at Q2
  rw [hg6, hg5]
  have HQ2 := Lib.hid Q2
  clear Q2
  go_wp2_with (first | (refine wpL_load (l := [.int .i64 f.x, .int .i64 f.y, .int .i64 f.z]) (by rfl) (by rfl) HQ2.out.b5 Try.underlying33 (by rfl) (by kernel_rfl) (by kernel_rfl) ?_; (conv => arg 5; simp only [Act.put, List.setIfInBounds_toArray, List.set_cons_zero, List.set_cons_succ])) | (refine wpL_load (l := [.int .i64 t.x, .int .i64 t.y, .int .i64 t.z]) (by rfl) (by rfl) HQ2.out.b6 Try.underlying33 (by rfl) (by kernel_rfl) (by kernel_rfl) ?_; (conv => arg 5; simp only [Act.put, List.setIfInBounds_toArray, List.set_cons_zero, List.set_cons_succ])))
  refine (wayC w2 HQ2.out.ti (by omega)).mono ?_
  rintro e w3 ⟨⟨av, rfl, hav⟩, hb3⟩
  have HQ3 := Lib.hid (HQ2.out.step hb3)
  clear HQ2 hb3
  go_wp2_with (first | (refine wpL_load (l := [.int .i64 f.x, .int .i64 f.y, .int .i64 f.z]) (by rfl) (by rfl) HQ3.out.b5 Try.underlying33 (by rfl) (by kernel_rfl) (by kernel_rfl) ?_; (conv => arg 5; simp only [Act.put, List.setIfInBounds_toArray, List.set_cons_zero, List.set_cons_succ])) | (refine wpL_load (l := [.int .i64 t.x, .int .i64 t.y, .int .i64 t.z]) (by rfl) (by rfl) HQ3.out.b6 Try.underlying33 (by rfl) (by kernel_rfl) (by kernel_rfl) ?_; (conv => arg 5; simp only [Act.put, List.setIfInBounds_toArray, List.set_cons_zero, List.set_cons_succ])))
  refine (wayC w3 HQ3.out.ti (by omega)).mono ?_
  rintro e w4 ⟨⟨bv, rfl, hbv⟩, hb4⟩
  rw [way_rev] at hbv
  have HQ4 := Lib.hid (HQ3.out.step hb4)
  have HA := Lib.hid (hav.step hb4); have HB := Lib.hid hbv
  clear HQ3 hb4 hav hbv
  have hwl : (wayL L f t).length ≤ 40 := Nat.le_trans (tell_len _ _) hLl
  by_cases hok : f.ok ∧ t.ok
  · have hok' : t.ok ∧ f.ok := ⟨hok.2, hok.1⟩
    obtain ⟨ws, hws⟩ : ∃ ws, wayL L f t = ws := ⟨_, rfl⟩
    rw [hws] at HA HB hwl
    have HWS := Lib.hid hws
    obtain ⟨A1, c1, rfl, _, _, _⟩ := HA.out.sl
    have ewl : (iv ws).length = ws.length := iv_len ws
    rw [ewl] at HA ⊢
    clear hws
    rw [errIf_pos hok', errIf_pos hok]
    have hS5 : Below w4.heap.size w4 (w4.alloc (.cells [.int .i64 f.x, .int .i64 f.y, .int .i64 f.z, .int .i64 t.x, .int .i64 t.y, .int .i64 t.z].toArray 33)) := (Below.refl _ _).alloc (Nat.le_refl _) _
    have hP5 : PAt (w4.alloc (.cells [.int .i64 f.x, .int .i64 f.y, .int .i64 f.z, .int .i64 t.x, .int .i64 t.y, .int .i64 t.z].toArray 33)) w4.heap.size 0 [f, t] := pAt_two (Box.new rfl)
    have hl5 : w4.heap.size < (w4.alloc (.cells [.int .i64 f.x, .int .i64 f.y, .int .i64 f.z, .int .i64 t.x, .int .i64 t.y, .int .i64 t.z].toArray 33)).heap.size := by simp
    have OF := Lib.hid (ofC f [t] 0 w4.heap.size 0 2 _ hl5 hP5 (by simp) (Int.le_refl _) (by omega))
    rw [ofS_ends hok.1 hok.2] at OF
    have HQ5 := Lib.hid (HQ4.out.step hS5)
    have HA5 := Lib.hid (HA.out.step hS5); have HB5 := Lib.hid (HB.out.step hS5)
    clear hP5 hl5 hS5 HA HB
    go_wp2_with (first | (refine wpL_load (l := [.int .i64 f.x, .int .i64 f.y, .int .i64 f.z]) (by rfl) (by rfl) HQ4.out.b5 Try.underlying33 (by rfl) (by kernel_rfl) (by kernel_rfl) ?_; (conv => arg 5; simp only [Act.put, List.setIfInBounds_toArray, List.set_cons_zero, List.set_cons_succ])) | (refine wpL_load (l := [.int .i64 t.x, .int .i64 t.y, .int .i64 t.z]) (by rfl) (by rfl) HQ4.out.b6 Try.underlying33 (by rfl) (by kernel_rfl) (by kernel_rfl) ?_; (conv => arg 5; simp only [Act.put, List.setIfInBounds_toArray, List.set_cons_zero, List.set_cons_succ])))
    refine Calls.mono OF.out ?_
    rintro e w6 ⟨rfl, hb6⟩
    have HQ6 := Lib.hid (HQ5.out.step hb6)
    have HA6 := Lib.hid (HA5.out.step hb6); have HB6 := Lib.hid (HB5.out.step hb6)
    clear OF HQ4 HQ5 HA5 HB5 hb6
    have hS7 : Below w6.heap.size w6 (w6.alloc (.cells [.int .i64 (ends f t).lo.x, .int .i64 (ends f t).lo.y, .int .i64 (ends f t).lo.z, .int .i64 (ends f t).hi.x, .int .i64 (ends f t).hi.y, .int .i64 (ends f t).hi.z].toArray 35)) := (Below.refl _ _).alloc (Nat.le_refl _) _
    have h14 : Box (w6.alloc (.cells [.int .i64 (ends f t).lo.x, .int .i64 (ends f t).lo.y, .int .i64 (ends f t).lo.z, .int .i64 (ends f t).hi.x, .int .i64 (ends f t).hi.y, .int .i64 (ends f t).hi.z].toArray 35)) w6.heap.size [.int .i64 (ends f t).lo.x, .int .i64 (ends f t).lo.y, .int .i64 (ends f t).lo.z, .int .i64 (ends f t).hi.x, .int .i64 (ends f t).hi.y, .int .i64 (ends f t).hi.z] 35 := Box.new rfl
    have HQ7 := Lib.hid (HQ6.out.step hS7)
    have HA7 := Lib.hid (HA6.out.step hS7); have HB7 := Lib.hid (HB6.out.step hS7)
    have n14 : ¬ S w6.heap.size := fun q => by have := HQ6.out.ti.lt _ q; omega
    clear HQ6 HA6 HB6 hS7
    go_wp2_with fail
    refine Calls.mono (sameIntsC _ HA7.out HB7.out (by omega)) ?_
    rintro e w8 ⟨rfl, hb8⟩
    have HQ8 := Lib.hid (HQ7.out.step hb8)
    have HA8 := Lib.hid (HA7.out.step hb8)
    have hb14 := h14.step hb8
    obtain ⟨g14, hg14⟩ : ∃ g, w6.heap.size = g := ⟨_, rfl⟩
    rw [hg14] at hb14 n14
    rw [hg14]
    have H14 := Lib.hid hb14
    clear HQ7 HA7 HB7 hb8 h14 hb14
    go_wp2_with (refine wpL_load (l := [.int .i64 (ends f t).lo.x, .int .i64 (ends f t).lo.y, .int .i64 (ends f t).lo.z, .int .i64 (ends f t).hi.x, .int .i64 (ends f t).hi.y, .int .i64 (ends f t).hi.z]) (by rfl) (by rfl) H14.out Try.underlying35 (by rfl) (by kernel_rfl) (by kernel_rfl) ?_; (conv => arg 5; simp only [Act.put, List.setIfInBounds_toArray, List.set_cons_zero, List.set_cons_succ]))
    refine (tmeetC (x := ends f t) w8 HQ8.out.ti (by omega)).mono ?_
    rintro e w9 ⟨⟨mv, rfl, hmv⟩, hb9⟩
    rw [errIf_pos (ends_ok hok.1 hok.2)]
    have hml : (meetL L (ends f t)).length ≤ 40 := Nat.le_trans (tell_len _ _) hLl
    have HQ9 := Lib.hid (HQ8.out.step hb9)
    have HA9 := Lib.hid (HA8.out.step hb9)
    have H14b := Lib.hid (H14.out.step hb9)
    have HMV := Lib.hid hmv
    clear HQ8 HA8 H14 hb9 hmv
    go_wp2_with fail
    go_loopw [18] (fun i wr => ∃ (j : Nat), i = .int .i64 (j : Int) ∧ j ≤ ws.length ∧ Below w9.heap.size w9 wr) (fun i _ => ws.length - (RowKit.intOf i).toNat)
    case atStart => exact ⟨0, rfl, Nat.zero_le _, Below.refl _ _⟩
    case round =>
      obtain ⟨j, rfl, hj, hSx⟩ := hrel
      by_cases hlt : j < ws.length
      · have t1 : decide ((j : Int) < (ws.length : Int)) = true := by simpa using hlt
        have v1 : IntKind.i64.wrap ((j : Int) + 1) = ((j + 1 : Nat) : Int) := by rw [IntKind.wrap_i64]; omega
        obtain ⟨x, hx⟩ : ∃ x, ws[j]? = some x := ⟨_, List.getElem?_eq_getElem hlt⟩
        obtain ⟨A', cap', e', hsl, _, _⟩ := HA9.out.sl
        rw [ewl] at e' hsl
        obtain ⟨b, off, e2, hbl, hcell⟩ := hsl.2 (by omega)
        have eA : A1 = A' := by injection e'
        subst eA
        subst e2
        have cx : wr.cell? ⟨b, off + j, none⟩ = some (.int .i64 x) := by rw [(bcell hSx).1 _ _ hbl]; exact hcell j _ (by unfold iv; rw [List.getElem?_map, hx]; rfl)
        have j0 : 0 ≤ (j : Int) ∧ (j : Int) < (ws.length : Int) := by omega
        have hmem : x ∈ wayL L f t := by rw [HWS.out]; exact List.mem_of_getElem? hx
        have hhas := hasC (n := x) wr (HMV.out.step hSx) (by omega)
        rw [way_meet hmem] at hhas
        have HH := Lib.hid hhas; have HSx := Lib.hid hSx
        clear hhas hcell hsl hSx e'
        go_wp2_with fail
        refine Calls.mono HH.out ?_
        rintro e w10 ⟨rfl, hb10⟩
        have hS9 := HSx.out.trans (hb10.mono HSx.out.size)
        clear HH hb10 cx
        go_wp2_with fail
        exact ⟨⟨j + 1, rfl, by omega, hS9⟩, by simp [RowKit.intOf]; omega⟩
      · obtain rfl : j = ws.length := by omega
        have t1 : decide ((ws.length : Int) < (ws.length : Int)) = false := by simp
        have HQ10 := Lib.hid (HQ9.out.step hSx)
        have H14c := Lib.hid (H14b.out.step hSx)
        clear HQ9 HA9 H14b HMV hSx
        go_wp2_with fail
        refine (dropC (n := k) wr HQ10.out.ti (by omega)).mono ?_
        rintro e w11 ⟨rfl, S', h11, a11⟩
        have HQ11 := Lib.hid (HQ10.out.aft h11 a11)
        have hb14 : Box w11 g14 [.int .i64 (ends f t).lo.x, .int .i64 (ends f t).lo.y, .int .i64 (ends f t).lo.z, .int .i64 (ends f t).hi.x, .int .i64 (ends f t).hi.y, .int .i64 (ends f t).hi.z] 35 := Box.block H14c.out (a11.fr.block _ H14c.out.lt n14)
        have H14d := Lib.hid hb14
        have hLr := HQ10.out.ti.rise
        have hLn : ∀ e ∈ L, 1 ≤ e.n ∧ e.n ≤ 4096 := fun e he => (HQ10.out.ti.ok e he).1
        have hgone := drop_gone (n := k) hLr hLn
        have hcl := tell_less (q := fun b => hitS b f t) (n := k) hLr
        clear HQ10 H14c h11 a11 hb14
        obtain ⟨L', hL'⟩ : ∃ L', dropL L k = L' := ⟨_, rfl⟩
        rw [hL'] at HQ11 hgone hcl
        go_wp2_with (first | (refine wpL_load (l := [.int .i64 f.x, .int .i64 f.y, .int .i64 f.z]) (by rfl) (by rfl) HQ11.out.b5 Try.underlying33 (by rfl) (by kernel_rfl) (by kernel_rfl) ?_; (conv => arg 5; simp only [Act.put, List.setIfInBounds_toArray, List.set_cons_zero, List.set_cons_succ])) | (refine wpL_load (l := [.int .i64 t.x, .int .i64 t.y, .int .i64 t.z]) (by rfl) (by rfl) HQ11.out.b6 Try.underlying33 (by rfl) (by kernel_rfl) (by kernel_rfl) ?_; (conv => arg 5; simp only [Act.put, List.setIfInBounds_toArray, List.set_cons_zero, List.set_cons_succ])))
        refine (wayC w11 HQ11.out.ti (by omega)).mono ?_
        rintro e w12 ⟨⟨cv, rfl, hcv⟩, hb12⟩
        rw [errIf_pos hok]
        have HQ12 := Lib.hid (HQ11.out.step hb12)
        have H14e := Lib.hid (H14d.out.step hb12)
        obtain ⟨vs, hvs⟩ : ∃ vs, wayL L' f t = vs := ⟨_, rfl⟩
        rw [hvs] at hcv
        have hcl' : vs.length ≤ ws.length ∧ ws.length ≤ vs.length + 1 := by
          rw [← hvs, ← HWS.out]; exact hcl
        have hno : vs.contains k = false := by rw [← hvs]; exact tell_no hgone
        obtain ⟨A3, c3, rfl, _, _, _⟩ := hcv.sl
        have evl : (iv vs).length = vs.length := iv_len vs
        rw [evl] at hcv ⊢
        have HCV := Lib.hid hcv
        clear HQ11 H14d hb12 hcv hcl hvs
        go_wp2_with (refine wpL_load (l := [.int .i64 (ends f t).lo.x, .int .i64 (ends f t).lo.y, .int .i64 (ends f t).lo.z, .int .i64 (ends f t).hi.x, .int .i64 (ends f t).hi.y, .int .i64 (ends f t).hi.z]) (by rfl) (by rfl) H14e.out Try.underlying35 (by rfl) (by kernel_rfl) (by kernel_rfl) ?_; (conv => arg 5; simp only [Act.put, List.setIfInBounds_toArray, List.set_cons_zero, List.set_cons_succ]))
        refine (tmeetC (x := ends f t) w12 HQ12.out.ti (by omega)).mono ?_
        rintro e w13 ⟨⟨dv, rfl, hdv⟩, hb13⟩
        rw [errIf_pos (ends_ok hok.1 hok.2)]
        have hno2 : (meetL L' (ends f t)).contains k = false := tell_no hgone
        have hLl' : L'.length ≤ 40 := by
          rw [← hL']; unfold dropL; split
          · exact Nat.le_trans (del_sub L k).length_le hLl
          · exact hLl
        have hdl : (meetL L' (ends f t)).length ≤ 100000 := Nat.le_trans (tell_len _ _) (by omega)
        have HQ13 := Lib.hid (HQ12.out.step hb13)
        have HCV2 := Lib.hid (HCV.out.step hb13); have HDV := Lib.hid hdv
        clear HQ12 HCV hb13 hdv H14e
        have t5 : decide ((vs.length : Int) ≤ (ws.length : Int)) = true := decide_eq_true (by omega)
        have v6 : IntKind.i64.wrap ((vs.length : Int) + 1) = (vs.length : Int) + 1 := by rw [IntKind.wrap_i64]; omega
        have t6 : decide ((ws.length : Int) ≤ (vs.length : Int) + 1) = true := decide_eq_true (by omega)
        go_wp2_with fail
        have hh1 := hasC (n := k) w13 HCV2.out (by omega)
        rw [hno] at hh1
        refine Calls.mono hh1 ?_
        clear hh1
        rintro e w14 ⟨rfl, hb14⟩
        have HQ14 := Lib.hid (HQ13.out.step hb14)
        have HDV2 := Lib.hid (HDV.out.step hb14)
        clear HQ13 HCV2 HDV hb14
        go_wp2_with fail
        have hh2 := hasC (n := k) w14 HDV2.out hdl
        rw [hno2] at hh2
        refine Calls.mono hh2 ?_
        clear hh2
        rintro e w15 ⟨rfl, hb15⟩
        have n15 := HQ14.out.nw.step hb15
        clear HQ14 HDV2 hb15
        go_wp2_with fail
        refine Calls.mono (awakeC w15) ?_
        rintro e w16 ⟨rfl, hb16⟩
        have n16 := n15.step hb16
        go_wp2_with fail
        exact bodyPost_ret (v := .bool true) (by simp [results, Try.results6, go_sem]) rfl ⟨rfl, n16.bel⟩
  · have hok' : ¬ (t.ok ∧ f.ok) := fun q => hok ⟨q.2, q.1⟩
    rw [errIf_neg hok', errIf_neg hok]
    rw [wayL_no hok] at HA HB
    obtain ⟨A1, c1, rfl, _, _, _⟩ := HA.out.sl
    have e0 : (iv []).length = 0 := rfl
    rw [e0] at HA ⊢
    have hS5 : Below w4.heap.size w4 (w4.alloc (.cells [.int .i64 f.x, .int .i64 f.y, .int .i64 f.z, .int .i64 t.x, .int .i64 t.y, .int .i64 t.z].toArray 33)) := (Below.refl _ _).alloc (Nat.le_refl _) _
    have hP5 : PAt (w4.alloc (.cells [.int .i64 f.x, .int .i64 f.y, .int .i64 f.z, .int .i64 t.x, .int .i64 t.y, .int .i64 t.z].toArray 33)) w4.heap.size 0 [f, t] := pAt_two (Box.new rfl)
    have hl5 : w4.heap.size < (w4.alloc (.cells [.int .i64 f.x, .int .i64 f.y, .int .i64 f.z, .int .i64 t.x, .int .i64 t.y, .int .i64 t.z].toArray 33)).heap.size := by simp
    have OF := Lib.hid (ofC f [t] 0 w4.heap.size 0 2 _ hl5 hP5 (by simp) (Int.le_refl _) (by omega))
    rw [ofS_no hok] at OF
    have HQ5 := Lib.hid (HQ4.out.step hS5)
    have HA5 := Lib.hid (HA.out.step hS5); have HB5 := Lib.hid (HB.out.step hS5)
    clear hP5 hl5 hS5 HA HB
    go_wp2_with (first | (refine wpL_load (l := [.int .i64 f.x, .int .i64 f.y, .int .i64 f.z]) (by rfl) (by rfl) HQ4.out.b5 Try.underlying33 (by rfl) (by kernel_rfl) (by kernel_rfl) ?_; (conv => arg 5; simp only [Act.put, List.setIfInBounds_toArray, List.set_cons_zero, List.set_cons_succ])) | (refine wpL_load (l := [.int .i64 t.x, .int .i64 t.y, .int .i64 t.z]) (by rfl) (by rfl) HQ4.out.b6 Try.underlying33 (by rfl) (by kernel_rfl) (by kernel_rfl) ?_; (conv => arg 5; simp only [Act.put, List.setIfInBounds_toArray, List.set_cons_zero, List.set_cons_succ])))
    refine Calls.mono OF.out ?_
    rintro e w6 ⟨rfl, hb6⟩
    have HQ6 := Lib.hid (HQ5.out.step hb6)
    have HA6 := Lib.hid (HA5.out.step hb6); have HB6 := Lib.hid (HB5.out.step hb6)
    clear OF HQ4 HQ5 HA5 HB5 hb6
    have hS7 : Below w6.heap.size w6 (w6.alloc (.cells #[.int .i64 bzero.lo.x, .int .i64 bzero.lo.y, .int .i64 bzero.lo.z, .int .i64 bzero.hi.x, .int .i64 bzero.hi.y, .int .i64 bzero.hi.z] 35)) := (Below.refl _ _).alloc (Nat.le_refl _) _
    have HQ7 := Lib.hid (HQ6.out.step hS7)
    have HA7 := Lib.hid (HA6.out.step hS7); have HB7 := Lib.hid (HB6.out.step hS7)
    clear HQ6 HA6 HB6 hS7
    go_wp2_with fail
    refine Calls.mono (sameIntsC _ HA7.out HB7.out (by simp)) ?_
    rintro e w8 ⟨rfl, hb8⟩
    have HQ8 := Lib.hid (HQ7.out.step hb8)
    clear HQ7 HA7 HB7 hb8
    go_wp2_with fail
    refine Calls.mono (awakeC w8) ?_
    rintro e w9 ⟨rfl, hb9⟩
    have n9 := HQ8.out.nw.step hb9
    go_wp2_with fail
    exact bodyPost_ret (v := .bool true) (by simp [results, Try.results6, go_sem]) rfl ⟨rfl, n9.bel⟩
set_option maxRecDepth 100000 in
set_option maxHeartbeats 4000000 in
theorem lawBig {A : Option Addr} {n cap : Nat} {f t : Pt} {k : Int} (w : World) (hn : ¬ n ≤ 40) : RetB Try.prog 6 #[.slice A n cap, .agg #[.int .i64 f.x, .int .i64 f.y, .int .i64 f.z], .agg #[.int .i64 t.x, .int .i64 t.y, .int .i64 t.z], .int .i64 k] w (.bool true) := by
  have hb1 : Below w.heap.size w (w.alloc (.cells #[.int .i64 f.x, .int .i64 f.y, .int .i64 f.z] 33)) := (Below.refl _ _).alloc (Nat.le_refl _) _
  have hb : Below w.heap.size w ((w.alloc (.cells #[.int .i64 f.x, .int .i64 f.y, .int .i64 f.z] 33)).alloc (.cells #[.int .i64 t.x, .int .i64 t.y, .int .i64 t.z] 33)) := hb1.alloc (by simp) _
  have t2 : decide ((40 : Int) < (n : Int)) = true := decide_eq_true (by omega)
  unfold RetB
  go_enter Try.func6, Try.ntmps6
  go_wp2_with fail
  refine Calls.mono (awakeC _) ?_
  rintro e w7 ⟨rfl, hb7⟩
  go_wp2_with fail
  exact bodyPost_ret (v := .bool true) (by simp [results, Try.results6, go_sem]) rfl ⟨rfl, hb.trans (hb7.mono hb.size)⟩
theorem law {A : Option Addr} {n : Nat} {l : List Bd} (cap : Nat) (f t : Pt) (k : Int) (w : World) (hs : SlB w A n l) : RetB Try.prog 6 #[.slice A n cap, .agg #[.int .i64 f.x, .int .i64 f.y, .int .i64 f.z], .agg #[.int .i64 t.x, .int .i64 t.y, .int .i64 t.z], .int .i64 k] w (.bool true) := by
  by_cases hn : n ≤ 40
  · exact lawGo w hs hn
  · exact lawBig w hn
end LSu
end Go.Proofs.Ytbcjnckejkjfeaa
namespace Go.Proofs.Ytbcjnckejkjfeaa
set_option linter.unusedVariables false
open Go.Joins Go.ChangeShapes Go.WideShapes Go.ChangeAt Go.RowKit Go.Deep Go.NP
set_option maxRecDepth 100000 in
theorem treeSureLifted (os : Os) (started : os.Started) (H : Type) (enc : TypeId × Value → H) :
    ReturnsInHanded {} Try.checked os 6 .any (Rows.treeSureSpec.pre6 enc Try.prog Try.f6 Rows.treeSureRow.domain false) (Rows.treeSureSpec.post enc Try.prog Try.f6 false true false false) := by
  refine returnsInHanded_of_change (C := Try.checked) own started (by kernel_rfl) Try.func6
    (ChangeSpec.witness6 (enc := enc) (C := Try.checked) false ⟨#[], #[.slice none 0 0, .agg #[.int .i64 0, .int .i64 0, .int .i64 0], .agg #[.int .i64 0, .int .i64 0, .int .i64 0], .int .i64 0], []⟩ 8 (by kernel_rfl) (by kernel_rfl) (by kernel_rfl) (by kernel_rfl)) ?_
  intro W base args ds gs before hval0 hW hcnd _
  have hval : ∀ (j : Nat) t v, Try.f6.params[j]? = some t → args[j]? = some v → Value.okWide Try.prog W .any base t v := hval0
  have hW' := hW
  obtain ⟨p, q, hA0, hV, rfl, hfz, hnd⟩ := hW
  have hA : DataW.TrodAll enc Try.prog W 0 (fun _ => true) true Try.f6.params.toList args.toList ds p := hA0
  rw [Try.params6] at hA hval
  obtain ⟨v0, vs0, d0, ds0, p0, q0, hargs, rfl, rfl, h0, r0⟩ := trodAll_cons hA
  obtain ⟨v1, vs1, d1, ds1, p1, q1, rfl, rfl, rfl, h1, r1⟩ := trodAll_cons r0
  obtain ⟨v2, vs2, d2, ds2, p2, q2, rfl, rfl, rfl, h2, r2⟩ := trodAll_cons r1
  obtain ⟨v3, vs3, d3, ds3, p3, q3, rfl, rfl, rfl, h3, r3⟩ := trodAll_cons r2
  obtain ⟨rfl, rfl, rfl⟩ := trodAll_nil r3
  obtain rfl : args = #[v0, v1, v2, v3] := by cases args; simp_all
  obtain ⟨rfl, rfl⟩ := trodVars_none hV
  have k0 := h0
  have lt0 : ∀ x ∈ p0, x.block < W.heap.size := by obtain ⟨m, hm⟩ := k0; exact DataW.trod_lt m _ _ _ hm
  have k1 := h1
  have lt1 : ∀ x ∈ p1, x.block < W.heap.size := by obtain ⟨m, hm⟩ := k1; exact DataW.trod_lt m _ _ _ hm
  have k2 := h2
  have lt2 : ∀ x ∈ p2, x.block < W.heap.size := by obtain ⟨m, hm⟩ := k2; exact DataW.trod_lt m _ _ _ hm
  obtain ⟨A0, n0, c0, a0, rfl, hs0⟩ := OpL.open_bds (hval 0 22 v0 rfl rfl) h0
  obtain ⟨a1, rfl⟩ := open_pt (hval 1 33 v1 rfl rfl) h1
  obtain ⟨a2, rfl⟩ := open_pt (hval 2 33 v2 rfl rfl) h2
  obtain ⟨a3, rfl, rfl, rfl, w3⟩ := open_int Try.underlying3 (hval 3 3 v3 rfl rfl) h3
  clear hA0 hval0
  refine Calls.mono (LSu.law c0 a1 a2 a3 W hs0) fun e W' ⟨he, bel⟩ => ?_
  subst he
  exact ⟨_, rfl, _, _, _, [], _, [], hW', trodAll_mk1 (shut_bool Try.underlying4 _), (trodAll_cons_mk (Below.trod laidOut (by kernel_rfl) (of_decide_eq_true (by kernel_rfl)) k0 bel lt0) (trodAll_cons_mk (Below.trod laidOut (by kernel_rfl) (of_decide_eq_true (by kernel_rfl)) k1 bel lt1) (trodAll_cons_mk (Below.trod laidOut (by kernel_rfl) (of_decide_eq_true (by kernel_rfl)) k2 bel lt2) (trodAll_cons_mk (shut_int Try.underlying3 w3) trodAll_mk0)))), rfl, bel.frame _, fun h => by cases h⟩
theorem treeSure_holds : Rows.TreeSureSaid :=
  OpenClaim.holds_of_wide 6 Try.f6 rfl rfl rfl rfl rfl rfl rfl ⟨rfl, rfl, rfl, rfl, rfl⟩ rfl rfl rfl rfl rfl (by kernel_rfl) Try.func6 (by kernel_rfl)
    (of_decide_eq_true (by kernel_rfl)) (by unfold Func.isWrapper; first | (rw [if_pos (by decide +kernel)]; kernel_rfl) | (rw [if_neg (by decide +kernel)]; exact ⟨rfl, rfl⟩))
    (fun os started H enc _ => treeSureLifted os started H enc)
end Go.Proofs.Ytbcjnckejkjfeaa
