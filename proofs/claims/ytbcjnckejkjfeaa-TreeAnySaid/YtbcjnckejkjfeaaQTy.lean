/- To whom a way comes: Way, its walk. Condition: the tree is there. The same lists are told to be the same: the walks. Condition: they are the same, and not too long. What a tree tells hangs on its numbers and bounds alone, plainly. No condition. What a tree tells hangs on the bounds that are there alone: the law's walk. Condition: the arguments are as told. What a tree tells hangs on the bounds that are there alone: with other margins, put the other way round, some put, set and dropped between, it is the same. No condition. -/
import Derived.Test.YtbcjnckejkjfeaaQTb
import Derived.Test.YtbcjnckejkjfeaaLaw3
namespace Go.Proofs.Ytbcjnckejkjfeaa
set_option linter.unusedVariables false
set_option linter.unusedSimpArgs false
open Go.RowKit Go.NP
namespace TWy
open TrP TrW TrC TrA TrF TrG TrX TrY TrK THg TCt QVl TrE TrI TAs TFp TFd TSr TMe
theorem cf42 (args : Array Value) (w1 : World) : (callFunc 42 args).run Try.prog w1 = .ok (.enter 42 args) w1 := enters Try.func42 (by kernel_rfl) (by kernel_rfl) args w1
theorem hitC (a : Bd) (f t : Pt) (w : World) : RetB Try.prog 43 #[.agg #[.int .i64 a.lo.x, .int .i64 a.lo.y, .int .i64 a.lo.z, .int .i64 a.hi.x, .int .i64 a.hi.y, .int .i64 a.hi.z], .agg #[.int .i64 f.x, .int .i64 f.y, .int .i64 f.z], .agg #[.int .i64 t.x, .int .i64 t.y, .int .i64 t.z]] w (.bool (hitS a f t)) := by
  by_cases h : a.ok ∧ f.ok ∧ t.ok
  · exact hitY a f t h.1 h.2.1 h.2.2 w
  · rw [hit_no h]; exact hitN a f t h w
theorem gcheckV (p : Pt) (w : World) : RetB Try.prog 30 #[.agg #[.int .i64 p.x, .int .i64 p.y, .int .i64 p.z]] w (.int .i64 (errIf p.ok)) := by
  by_cases h : p.ok
  · rw [errIf_pos h]; exact gcheck_ok p w h
  · rw [errIf_neg h]; exact gcheck_no p w h
set_option maxRecDepth 100000 in
set_option maxHeartbeats 2000000 in
theorem m2C {g1 g2 : Nat} {f t : Pt} (b : Bd) (u : World) (h : Box u g1 [.int .i64 f.x, .int .i64 f.y, .int .i64 f.z] 33) (h' : Box u g2 [.int .i64 t.x, .int .i64 t.y, .int .i64 t.z] 33) : RetB Try.prog 42 #[.agg #[.int .i64 b.lo.x, .int .i64 b.lo.y, .int .i64 b.lo.z, .int .i64 b.hi.x, .int .i64 b.hi.y, .int .i64 b.hi.z], .pointer (some ⟨g1, 0, none⟩), .pointer (some ⟨g2, 0, none⟩)] u (.bool (hitS b f t)) := by
  have hb : Below u.heap.size u (u.alloc (.cells #[.int .i64 b.lo.x, .int .i64 b.lo.y, .int .i64 b.lo.z, .int .i64 b.hi.x, .int .i64 b.hi.y, .int .i64 b.hi.z] 35)) := (Below.refl _ _).alloc (Nat.le_refl _) _
  have H1 := Lib.hid (h.step hb); have H3 := Lib.hid (h'.step hb)
  have H2 := Lib.hid (show Box (u.alloc (.cells #[.int .i64 b.lo.x, .int .i64 b.lo.y, .int .i64 b.lo.z, .int .i64 b.hi.x, .int .i64 b.hi.y, .int .i64 b.hi.z] 35)) u.heap.size [.int .i64 b.lo.x, .int .i64 b.lo.y, .int .i64 b.lo.z, .int .i64 b.hi.x, .int .i64 b.hi.y, .int .i64 b.hi.z] 35 from Box.new rfl)
  clear h h'
  unfold RetB
  go_enter Try.func42, Try.ntmps42
  go_wp2_with (first | (refine wpL_load (l := [.int .i64 b.lo.x, .int .i64 b.lo.y, .int .i64 b.lo.z, .int .i64 b.hi.x, .int .i64 b.hi.y, .int .i64 b.hi.z]) (by rfl) (by rfl) H2.out Try.underlying35 (by rfl) (by kernel_rfl) (by kernel_rfl) ?_; (conv => arg 5; simp only [Act.put, List.setIfInBounds_toArray, List.set_cons_zero, List.set_cons_succ])) | (refine wpL_load (l := [.int .i64 f.x, .int .i64 f.y, .int .i64 f.z]) (by rfl) (by rfl) H1.out Try.underlying33 (by rfl) (by kernel_rfl) (by kernel_rfl) ?_; (conv => arg 5; simp only [Act.put, List.setIfInBounds_toArray, List.set_cons_zero, List.set_cons_succ])) | (refine wpL_load (l := [.int .i64 t.x, .int .i64 t.y, .int .i64 t.z]) (by rfl) (by rfl) H3.out Try.underlying33 (by rfl) (by kernel_rfl) (by kernel_rfl) ?_; (conv => arg 5; simp only [Act.put, List.setIfInBounds_toArray, List.set_cons_zero, List.set_cons_succ])))
  refine (hitC b f t _).mono ?_
  rintro e w1 ⟨rfl, hS⟩
  go_wp2_with fail
  exact bodyPost_ret (v := .bool (hitS b f t)) (by simp [results, Try.results42, go_sem, *]) rfl ⟨rfl, hb.trans (hS.mono hb.size)⟩
/-- The numbers to whose bounds a way comes. -/
def wayL (L : List En) (f t : Pt) : List Int := tell (fun b => hitS b f t) L
theorem wayL_no {L : List En} {f t : Pt} (h : ¬ (f.ok ∧ t.ok)) : wayL L f t = [] := by
  unfold wayL tell
  rw [List.filter_eq_nil_iff.2]; · rfl
  intro e _ hm
  have h2 : hitS e.b f t = true := hm
  rw [hit_no fun q => h q.2] at h2
  cases h2
set_option maxRecDepth 100000 in
set_option maxHeartbeats 4000000 in
theorem wayC {p K : Nat} {mg : Int} {f t : Pt} {L : List En} {S : Nat → Prop} (w : World) (h : TI w p mg L S K) (hK : K < 80000) :
    Calls Try.prog 21 #[.pointer (some ⟨p, 0, none⟩), .agg #[.int .i64 f.x, .int .i64 f.y, .int .i64 f.z], .agg #[.int .i64 t.x, .int .i64 t.y, .int .i64 t.z]] w fun e w' => (∃ v, e = .returned (.tuple #[v, .int .i64 (errIf (f.ok ∧ t.ok))]) ∧ OwnV w' w.heap.size 3 v (iv (wayL L f t))) ∧ Below w.heap.size w w' := by
  have hb1 : Below w.heap.size w (w.alloc (.cells #[.int .i64 f.x, .int .i64 f.y, .int .i64 f.z] 33)) := (Below.refl _ _).alloc (Nat.le_refl _) _
  have hb : Below w.heap.size w ((w.alloc (.cells #[.int .i64 f.x, .int .i64 f.y, .int .i64 f.z] 33)).alloc (.cells #[.int .i64 t.x, .int .i64 t.y, .int .i64 t.z] 33)) := hb1.alloc (by simp) _
  have h1 : Box ((w.alloc (.cells #[.int .i64 f.x, .int .i64 f.y, .int .i64 f.z] 33)).alloc (.cells #[.int .i64 t.x, .int .i64 t.y, .int .i64 t.z] 33)) w.heap.size [.int .i64 f.x, .int .i64 f.y, .int .i64 f.z] 33 := (Box.new rfl).alloc _
  have h2 : Box ((w.alloc (.cells #[.int .i64 f.x, .int .i64 f.y, .int .i64 f.z] 33)).alloc (.cells #[.int .i64 t.x, .int .i64 t.y, .int .i64 t.z] 33)) (w.heap.size + 1) [.int .i64 t.x, .int .i64 t.y, .int .i64 t.z] 33 := Box.new (by simp)
  have hti := h.step hb
  have hm : ((w.alloc (.cells #[.int .i64 f.x, .int .i64 f.y, .int .i64 f.z] 33)).alloc (.cells #[.int .i64 t.x, .int .i64 t.y, .int .i64 t.z] 33)).cell? ⟨p, 0, none⟩ = some (.bool true) ∧ p < ((w.alloc (.cells #[.int .i64 f.x, .int .i64 f.y, .int .i64 f.z] 33)).alloc (.cells #[.int .i64 t.x, .int .i64 t.y, .int .i64 t.z] 33)).heap.size := by
    obtain ⟨T, F, al, lv, b, c, pl, h0, rfl⟩ := hti
    have := TO.madec h0.ts.tx.to; rw [h0.p_] at this; exact ⟨this, h0.lt⟩
  have AS := Lib.hid (askedC (n := 1) (x := bzero) _ hm.1 hm.2)
  have e1 : askS 1 bzero = 0 := by decide
  rw [e1] at AS
  have H1 := Lib.hid h1; have H2 := Lib.hid h2; have HTI := Lib.hid hti; have HBE := Lib.hid hb
  clear h h1 h2 hti hm hb hb1
  obtain ⟨er, her⟩ : ∃ er, errIf (f.ok ∧ t.ok) = er := ⟨_, rfl⟩
  obtain ⟨ws, hws⟩ : ∃ ws, wayL L f t = ws := ⟨_, rfl⟩
  rw [her, hws]
  go_enter Try.func21, Try.ntmps21
  go_wp2_with fail
  refine AS.out.mono ?_
  rintro e w1 ⟨rfl, hS⟩
  have h1 := H1.out.step hS
  have h2 := H2.out.step hS
  have hti := HTI.out.step hS
  have HW := Lib.hid (HBE.out.trans (hS.mono HBE.out.size))
  clear AS H1 H2 HTI HBE hS
  have H1 := Lib.hid h1; have H2 := Lib.hid h2; have HTI := Lib.hid hti
  clear h1 h2 hti
  by_cases hf : f.ok
  · by_cases ht : t.ok
    · obtain rfl : er = 0 := by rw [← her, errIf_pos ⟨hf, ht⟩]
      go_wp2_with (refine wpL_load (l := [.int .i64 f.x, .int .i64 f.y, .int .i64 f.z]) (by rfl) (by rfl) H1.out Try.underlying33 (by rfl) (by kernel_rfl) (by kernel_rfl) ?_; (conv => arg 5; simp only [Act.put, List.setIfInBounds_toArray, List.set_cons_zero, List.set_cons_succ]))
      refine Calls.mono (gcheck_ok f w1 hf) ?_
      rintro e w2 ⟨rfl, hS2⟩
      have H2b := Lib.hid (H2.out.step hS2)
      go_wp2_with (refine wpL_load (l := [.int .i64 t.x, .int .i64 t.y, .int .i64 t.z]) (by rfl) (by rfl) H2b.out Try.underlying33 (by rfl) (by kernel_rfl) (by kernel_rfl) ?_; (conv => arg 5; simp only [Act.put, List.setIfInBounds_toArray, List.set_cons_zero, List.set_cons_succ]))
      refine Calls.mono (gcheck_ok t w2 ht) ?_
      rintro e w3 ⟨rfl, hS3⟩
      have g1 := (H1.out.step hS2).step hS3
      have g2 := H2b.out.step hS3
      have gt := (HTI.out.step hS2).step hS3
      have HW3 := Lib.hid ((HW.out.trans (hS2.mono HW.out.size)).trans (hS3.mono (by have := HW.out.size; have := hS2.size; omega)))
      clear H1 H2 HTI HW H2b hS2 hS3
      go_wp2_with fail
      refine (findTI (q := fun b => hitS b f t) (fid := 42) (ca := #[.pointer (some ⟨w.heap.size, 0, none⟩), .pointer (some ⟨w.heap.size + 1, 0, none⟩)]) w3 gt hK (fun F b q1 q2 => hit_more q1 q2) cf42 (fun b u hu => m2C b u (g1.step hu) (g2.step hu))).mono ?_
      rintro e w4 ⟨⟨v, rfl, hv⟩, hS4⟩
      have FIN := Lib.hid (show (∃ v_1, Ending.returned (.tuple #[v, .int .i64 0]) = .returned (.tuple #[v_1, .int .i64 0]) ∧ OwnV w4 w.heap.size 3 v_1 (iv ws)) ∧ Below w.heap.size w w4 from ⟨⟨v, rfl, by rw [← hws]; exact hv.mono HW3.out.size⟩, HW3.out.trans (hS4.mono HW3.out.size)⟩)
      clear hv hS4 HW3 g1 g2 gt
      go_wp2_with fail
      exact bodyPost_ret (v := .tuple #[v, .int .i64 0]) (by simp [results, Try.results21, go_sem]) rfl FIN.out
    · obtain rfl : er = 7 := by rw [← her, errIf_neg fun q => ht q.2]
      obtain rfl : ws = [] := by rw [← hws, wayL_no fun q => ht q.2]
      go_wp2_with (refine wpL_load (l := [.int .i64 f.x, .int .i64 f.y, .int .i64 f.z]) (by rfl) (by rfl) H1.out Try.underlying33 (by rfl) (by kernel_rfl) (by kernel_rfl) ?_; (conv => arg 5; simp only [Act.put, List.setIfInBounds_toArray, List.set_cons_zero, List.set_cons_succ]))
      refine Calls.mono (gcheck_ok f w1 hf) ?_
      rintro e w2 ⟨rfl, hS2⟩
      have H2b := Lib.hid (H2.out.step hS2)
      go_wp2_with (refine wpL_load (l := [.int .i64 t.x, .int .i64 t.y, .int .i64 t.z]) (by rfl) (by rfl) H2b.out Try.underlying33 (by rfl) (by kernel_rfl) (by kernel_rfl) ?_; (conv => arg 5; simp only [Act.put, List.setIfInBounds_toArray, List.set_cons_zero, List.set_cons_succ]))
      refine Calls.mono (gcheck_no t w2 ht) ?_
      rintro e w3 ⟨rfl, hS3⟩
      go_wp2_with fail
      exact bodyPost_ret (v := .tuple #[.slice none 0 0, .int .i64 7]) (by simp [results, Try.results21, go_sem]) rfl ⟨⟨.slice none 0 0, rfl, OwnV.nil _ _ _⟩, (HW.out.trans (hS2.mono HW.out.size)).trans (hS3.mono (by have := HW.out.size; have := hS2.size; omega))⟩
  · obtain rfl : er = 7 := by rw [← her, errIf_neg fun q => hf q.1]
    obtain rfl : ws = [] := by rw [← hws, wayL_no fun q => hf q.1]
    go_wp2_with (refine wpL_load (l := [.int .i64 f.x, .int .i64 f.y, .int .i64 f.z]) (by rfl) (by rfl) H1.out Try.underlying33 (by rfl) (by kernel_rfl) (by kernel_rfl) ?_; (conv => arg 5; simp only [Act.put, List.setIfInBounds_toArray, List.set_cons_zero, List.set_cons_succ]))
    refine Calls.mono (gcheck_no f w1 hf) ?_
    rintro e w2 ⟨rfl, hS2⟩
    go_wp2_with fail
    exact bodyPost_ret (v := .tuple #[.slice none 0 0, .int .i64 7]) (by simp [results, Try.results21, go_sem]) rfl ⟨⟨.slice none 0 0, rfl, OwnV.nil _ _ _⟩, HW.out.trans (hS2.mono HW.out.size)⟩
end TWy
end Go.Proofs.Ytbcjnckejkjfeaa
namespace Go.Proofs.Ytbcjnckejkjfeaa
set_option linter.unusedVariables false
set_option linter.unusedSimpArgs false
open Go.RowKit Go.NP
namespace TSm
open TrX QVl
set_option maxRecDepth 100000 in
set_option maxHeartbeats 4000000 in
theorem sameIntsC {v u : Value} {base base' : Nat} {l : List Int} (w : World) (h : OwnV w base 3 v (iv l)) (h' : OwnV w base' 3 u (iv l)) (hl : l.length ≤ 100000) : RetB Try.prog 22 #[v, u] w (.bool true) := by
  obtain ⟨A, cap, rfl, hs, _, _⟩ := h.sl
  obtain ⟨A', cap', rfl, hs', _, _⟩ := h'.sl
  have elen : (iv l).length = l.length := iv_len l
  rw [elen] at hs hs' ⊢
  clear h h'
  obtain ⟨m, hm⟩ : ∃ m, l.length = m := ⟨_, rfl⟩
  have HM := Lib.hid hm; have HS := Lib.hid hs; have HS' := Lib.hid hs'
  rw [hm]
  clear hs hs'
  unfold RetB
  go_enter Try.func22, Try.ntmps22
  go_wp2_with fail
  go_loopw [5] (fun i wr => ∃ (k : Nat), i = .int .i64 (k : Int) ∧ k ≤ m ∧ Below w.heap.size w wr) (fun i _ => m - (RowKit.intOf i).toNat)
  case atStart => exact ⟨0, rfl, Nat.zero_le _, Below.refl _ _⟩
  case round =>
    obtain ⟨k, rfl, hk, hS⟩ := hrel
    by_cases hlt : k < m
    · have t1 : decide ((k : Int) < (m : Int)) = true := by simpa using hlt
      obtain ⟨x, hx⟩ : ∃ x, l[k]? = some x := ⟨_, List.getElem?_eq_getElem (by omega)⟩
      obtain ⟨b, off, rfl, hb, hcell⟩ := HS.out.2 (by omega)
      obtain ⟨b', off', rfl, hb', hcell'⟩ := HS'.out.2 (by omega)
      have cx : wr.cell? ⟨b, off + k, none⟩ = some (.int .i64 x) := by rw [(bcell hS).1 _ _ hb]; exact hcell k _ (by unfold iv; rw [List.getElem?_map, hx]; rfl)
      have cx' : wr.cell? ⟨b', off' + k, none⟩ = some (.int .i64 x) := by rw [(bcell hS).1 _ _ hb']; exact hcell' k _ (by unfold iv; rw [List.getElem?_map, hx]; rfl)
      have hbw : b < wr.heap.size := by have := hS.size; omega
      have hbw' : b' < wr.heap.size := by have := hS.size; omega
      have k0 : 0 ≤ (k : Int) ∧ (k : Int) < (m : Int) := by omega
      have v1 : IntKind.i64.wrap ((k : Int) + 1) = ((k + 1 : Nat) : Int) := by rw [IntKind.wrap_i64]; omega
      have HSx := Lib.hid hS
      clear hcell hcell' hS
      go_wp2_with fail
      refine wp_region_ph [(9, .free [])] (by kernel_rfl) (by kernel_rfl) ?_
      refine Ph.belowd ?_
      simp only [List.drop_succ_cons, List.drop_zero, List.take_succ_cons, List.take_zero, Nat.reduceSub, Nat.sub_zero]
      iterate 9 (refine SeqO.val (v := ?_) (by rfl) (by rfl) (fun w1 hS => ?_) ?_; rotate_left; (· obtain ⟨hc, hcf⟩ := bcell hS; go_simp; try with_reducible rfl); simp only [Act.put, List.setIfInBounds_toArray, List.set_cons_zero, List.set_cons_succ])
      refine SeqO.nil0 fun w8 hS8 => ?_
      refine Ph.last ?_
      simp only [List.drop_succ_cons, List.drop_zero, List.take_succ_cons, List.take_zero, Nat.reduceSub, Nat.sub_zero]
      refine wpList_nil ?_
      have hS9 := HSx.out.trans (hS8.mono HSx.out.size)
      clear cx cx' hbw hbw' HSx hS8
      go_wp2_with fail
      exact ⟨⟨k + 1, rfl, by omega, hS9⟩, by simp [RowKit.intOf]; omega⟩
    · obtain rfl : k = m := by omega
      have t1 : decide ((k : Int) < (k : Int)) = false := by simp
      go_wp2_with fail
      exact bodyPost_ret (v := .bool true) (by simp [results, Try.results22, go_sem]) rfl ⟨rfl, hS⟩
set_option maxRecDepth 100000 in
set_option maxHeartbeats 4000000 in
theorem samePairsC {v u : Value} {base base' : Nat} {l : List Pr} (w : World) (h : OwnS w base v l) (h' : OwnS w base' u l) (hl : l.length ≤ 100000) : RetB Try.prog 23 #[v, u] w (.bool true) := by
  obtain ⟨A, cap, rfl, hs⟩ := h.sl
  obtain ⟨A', cap', rfl, hs'⟩ := h'.sl
  clear h h'
  obtain ⟨m, hm⟩ : ∃ m, l.length = m := ⟨_, rfl⟩
  have HM := Lib.hid hm; have HS := Lib.hid hs; have HS' := Lib.hid hs'
  rw [hm]
  clear hs hs'
  unfold RetB
  go_enter Try.func23, Try.ntmps23
  go_wp2_with fail
  go_loopw [5] (fun i wr => ∃ (k : Nat), i = .int .i64 (k : Int) ∧ k ≤ m ∧ Below w.heap.size w wr) (fun i _ => m - (RowKit.intOf i).toNat)
  case atStart => exact ⟨0, rfl, Nat.zero_le _, Below.refl _ _⟩
  case round =>
    obtain ⟨k, rfl, hk, hS⟩ := hrel
    by_cases hlt : k < m
    · have t1 : decide ((k : Int) < (m : Int)) = true := by simpa using hlt
      obtain ⟨x, hx⟩ : ∃ x, l[k]? = some x := ⟨_, List.getElem?_eq_getElem (by omega)⟩
      obtain ⟨b, off, rfl, hb, hcell⟩ := HS.out.2 (by omega)
      obtain ⟨b', off', rfl, hb', hcell'⟩ := HS'.out.2 (by omega)
      have HA := Lib.hid (show At' wr b (off + k * 2) [.int .i64 x.a, .int .i64 x.b] from (hcell k x hx).step hb hS)
      have HA' := Lib.hid (show At' wr b' (off' + k * 2) [.int .i64 x.a, .int .i64 x.b] from (hcell' k x hx).step hb' hS)
      have HB := Lib.hid (show b < wr.heap.size by have := hS.size; omega)
      have HB' := Lib.hid (show b' < wr.heap.size by have := hS.size; omega)
      have k0 : 0 ≤ (k : Int) ∧ (k : Int) < (m : Int) := by omega
      have v1 : IntKind.i64.wrap ((k : Int) + 1) = ((k + 1 : Nat) : Int) := by rw [IntKind.wrap_i64]; omega
      have HSx := Lib.hid hS
      clear hcell hcell' hS
      go_wp2_with fail
      refine wp_region_ph [(9, .free [])] (by kernel_rfl) (by kernel_rfl) ?_
      refine Ph.belowd ?_
      simp only [List.drop_succ_cons, List.drop_zero, List.take_succ_cons, List.take_zero, Nat.reduceSub, Nat.sub_zero]
      iterate 3 (refine SeqO.val (v := ?_) (by rfl) (by rfl) (fun w1 hS => ?_) ?_; rotate_left; (· obtain ⟨hc, hcf⟩ := bcell hS; go_simp; try with_reducible rfl); simp only [Act.put, List.setIfInBounds_toArray, List.set_cons_zero, List.set_cons_succ])
      refine SeqO.at (l := [.int .i64 x.a, .int .i64 x.b]) (by rfl) (by rfl) HB.out HA.out Try.underlying64 (by rfl) (by kernel_rfl) (by rfl) (by rfl) ?_
      simp only [Act.put, List.setIfInBounds_toArray, List.set_cons_zero, List.set_cons_succ]
      iterate 3 (refine SeqO.val (v := ?_) (by rfl) (by rfl) (fun w1 hS => ?_) ?_; rotate_left; (· obtain ⟨hc, hcf⟩ := bcell hS; go_simp; try with_reducible rfl); simp only [Act.put, List.setIfInBounds_toArray, List.set_cons_zero, List.set_cons_succ])
      refine SeqO.at (l := [.int .i64 x.a, .int .i64 x.b]) (by rfl) (by rfl) HB'.out HA'.out Try.underlying64 (by rfl) (by kernel_rfl) (by rfl) (by rfl) ?_
      simp only [Act.put, List.setIfInBounds_toArray, List.set_cons_zero, List.set_cons_succ]
      iterate 1 (refine SeqO.val (v := ?_) (by rfl) (by rfl) (fun w1 hS => ?_) ?_; rotate_left; (· obtain ⟨hc, hcf⟩ := bcell hS; go_simp; try with_reducible rfl); simp only [Act.put, List.setIfInBounds_toArray, List.set_cons_zero, List.set_cons_succ])
      refine SeqO.nil0 fun w8 hS8 => ?_
      refine Ph.last ?_
      simp only [List.drop_succ_cons, List.drop_zero, List.take_succ_cons, List.take_zero, Nat.reduceSub, Nat.sub_zero]
      refine wpList_nil ?_
      have hS9 := HSx.out.trans (hS8.mono HSx.out.size)
      clear HA HA' HB HB' HSx hS8
      go_wp2_with fail
      exact ⟨⟨k + 1, rfl, by omega, hS9⟩, by simp [RowKit.intOf]; omega⟩
    · obtain rfl : k = m := by omega
      have t1 : decide ((k : Int) < (k : Int)) = false := by simp
      go_wp2_with fail
      exact bodyPost_ret (v := .bool true) (by simp [results, Try.results23, go_sem]) rfl ⟨rfl, hS⟩
end TSm
end Go.Proofs.Ytbcjnckejkjfeaa
namespace Go.Proofs.Ytbcjnckejkjfeaa
set_option linter.unusedVariables false
set_option linter.unusedSimpArgs false
open Go.RowKit Go.NP
namespace TBa
open TrE TPu TDr TSt TMe TPp TFi TWy
def bare (L : List En) : List (Int × Bd) := L.map fun e => (e.n, e.b)
def bOf (L : List En) (n : Int) : Option Bd := (get L n).map (·.b)
theorem bOf_mem {L : List En} (hr : Rise L) {n : Int} {b : Bd} : bOf L n = some b ↔ (n, b) ∈ bare L := by
  unfold bOf bare
  rw [List.mem_map]
  constructor
  · intro h
    cases hg : get L n with
    | none => rw [hg] at h; cases h
    | some e =>
      rw [hg] at h
      obtain ⟨h1, h2⟩ := get_in hg
      exact ⟨e, h1, by rw [h2]; congr 1; simpa using h⟩
  · rintro ⟨e, he, h⟩
    cases h
    rw [get_of hr he rfl]; rfl
theorem bOf_isIn {L : List En} {n : Int} : isIn L n = (bOf L n).isSome := by
  unfold bOf
  cases hg : get L n with
  | none => rw [get_none.1 hg]; rfl
  | some e => rw [get_isIn hg]; rfl
theorem bare_rise {L : List En} (hr : Rise L) : (bare L).Pairwise fun a b => a.1 < b.1 := List.pairwise_map.2 hr
theorem bare_ext {L L' : List En} (hr : Rise L) (hr' : Rise L') (h : ∀ n, bOf L n = bOf L' n) : bare L = bare L' := by
  have n1 : (bare L).Nodup := (bare_rise hr).imp fun q e => by rw [e] at q; omega
  have n2 : (bare L').Nodup := (bare_rise hr').imp fun q e => by rw [e] at q; omega
  refine List.Perm.eq_of_pairwise (le := fun a b : Int × Bd => a.1 ≤ b.1) (fun a b ha hb h1 h2 => ?_) ((bare_rise hr).imp fun q => by omega) ((bare_rise hr').imp fun q => by omega) ((List.perm_ext_iff_of_nodup n1 n2).2 fun x => ?_)
  · have q1 := (bOf_mem hr (n := a.1) (b := a.2)).2 ha
    have q2 := (bOf_mem hr' (n := b.1) (b := b.2)).2 hb
    have e : a.1 = b.1 := by omega
    rw [h, e, q2] at q1
    injection q1 with q1
    exact Prod.ext e q1.symm
  · obtain ⟨n, b⟩ := x
    rw [← bOf_mem hr, ← bOf_mem hr', h]
theorem tell_bare (q : Bd → Bool) (L : List En) : tell q L = ((bare L).filter fun x => q x.2).map (·.1) := by
  unfold tell bare
  rw [List.filter_map, List.map_map]
  rfl
def pairsB : List (Int × Bd) → List Pr
  | [] => []
  | e :: r => ((r.filter fun x => meet e.2 x.2).map fun x => (⟨e.1, x.1⟩ : Pr)) ++ pairsB r
theorem pairs_bare : ∀ L : List En, pairsP L = pairsB (bare L)
  | [] => rfl
  | e :: r => by
    show _ = ((bare r).filter fun x => meet e.b x.2).map (fun x => (⟨e.n, x.1⟩ : Pr)) ++ pairsB (bare r)
    rw [← pairs_bare r, show pairsP (e :: r) = ((r.filter fun x => meet e.b x.b).map fun x => (⟨e.n, x.n⟩ : Pr)) ++ pairsP r from rfl]
    congr 1
    unfold bare
    rw [List.filter_map, List.map_map]
    rfl
theorem len_bare (L : List En) : (bare L).length = L.length := List.length_map _
theorem get_perm {L L' : List En} (hr : Rise L) (hr' : Rise L') (h : L.Perm L') (n : Int) : bOf L n = bOf L' n := by
  cases hb : bOf L n with
  | some b =>
    have := (bOf_mem hr).1 hb
    exact ((bOf_mem hr').2 ((h.map _).mem_iff.1 this)).symm
  | none =>
    cases hb' : bOf L' n with
    | none => rfl
    | some b =>
      have := (bOf_mem hr).2 ((h.map _).mem_iff.2 ((bOf_mem hr').1 hb'))
      rw [hb] at this; cases this
theorem bOf_ins {L : List En} {e : En} (hr : Rise L) (h : isIn L e.n = false) (k : Int) : bOf (ins L e) k = if k = e.n then some e.b else bOf L k := by
  have hr' := ins_rise hr h
  by_cases q : k = e.n
  · rw [if_pos q, q]
    exact (bOf_mem hr').2 (List.mem_map.2 ⟨e, (ins_perm L e).mem_iff.2 (List.mem_cons_self ..), rfl⟩)
  · rw [if_neg q]
    cases hb : bOf L k with
    | some b =>
      obtain ⟨x, hx, hxe⟩ := List.mem_map.1 ((bOf_mem hr).1 hb)
      exact (bOf_mem hr').2 (List.mem_map.2 ⟨x, (ins_perm L e).mem_iff.2 (List.mem_cons_of_mem _ hx), hxe⟩)
    | none =>
      cases hb' : bOf (ins L e) k with
      | none => rfl
      | some b =>
        obtain ⟨x, hx, hxe⟩ := List.mem_map.1 ((bOf_mem hr').1 hb')
        rcases List.mem_cons.1 ((ins_perm L e).mem_iff.1 hx) with r | r
        · rw [r] at hxe; cases hxe; exact absurd rfl q
        · have := (bOf_mem hr).2 (List.mem_map.2 ⟨x, r, hxe⟩)
          rw [hb] at this; cases this
theorem bOf_del {L : List En} {n : Int} (hr : Rise L) (h : isIn L n = true) (k : Int) : bOf (del L n) k = if k = n then none else bOf L k := by
  have hr' := del_rise n hr
  by_cases q : k = n
  · rw [if_pos q, q]
    have := bOf_isIn (L := del L n) (n := n)
    rw [del_out hr h] at this
    cases hb : bOf (del L n) n with
    | none => rfl
    | some b => rw [hb] at this; cases this
  · rw [if_neg q]
    obtain ⟨e, he, hen, hp⟩ := del_perm hr h
    cases hb : bOf L k with
    | some b =>
      obtain ⟨x, hx, hxe⟩ := List.mem_map.1 ((bOf_mem hr).1 hb)
      rcases List.mem_cons.1 (hp.mem_iff.1 hx) with r | r
      · rw [r] at hxe; cases hxe; exact absurd hen q
      · exact (bOf_mem hr').2 (List.mem_map.2 ⟨x, r, hxe⟩)
    | none =>
      cases hb' : bOf (del L n) k with
      | none => rfl
      | some b =>
        obtain ⟨x, hx, hxe⟩ := List.mem_map.1 ((bOf_mem hr').1 hb')
        have := (bOf_mem hr).2 (List.mem_map.2 ⟨x, (del_sub L n).subset hx, hxe⟩)
        rw [hb] at this; cases this
theorem bOf_put {mg n : Int} {L : List En} {x : Bd} (hr : Rise L) (k : Int) : bOf (putL mg L n x) k = if putE L n x = 0 ∧ k = n then some x else bOf L k := by
  unfold putL
  by_cases h : putE L n x = 0
  · have hi : isIn L n = false := by
      unfold putE at h
      split at h
      · split at h
        · split at h
          · cases h
          · rename_i q; simpa using q
        · cases h
      · cases h
    rw [if_pos h, bOf_ins hr hi]
    simp [h]
  · rw [if_neg h, if_neg fun q => h q.1]
theorem set_in {n : Int} {L : List En} {x : Bd} (h : setE L n x = 0) : isIn L n = true := by
  unfold setE at h
  split at h
  · split at h
    · split at h
      · rename_i q; exact q
      · cases h
    · cases h
  · cases h
theorem bOf_set {mg n : Int} {L : List En} {x : Bd} (hr : Rise L) (k : Int) : bOf (setL mg L n x) k = if setE L n x = 0 ∧ k = n then some x else bOf L k := by
  unfold setL
  by_cases h : setE L n x = 0
  · have hi := set_in h
    rw [if_pos h, ← upd_ins hr hi, bOf_ins (del_rise n hr) (del_out hr hi), bOf_del hr hi]
    by_cases q : k = n
    · simp [q, h]
    · simp [q, h]
  · rw [if_neg h, if_neg fun q => h q.1]
theorem bOf_drop {n : Int} {L : List En} (hr : Rise L) (k : Int) : bOf (dropL L n) k = if (1 ≤ n ∧ n ≤ 4096) ∧ k = n then none else bOf L k := by
  unfold dropL
  by_cases h : dropE L n = 0
  · have hi : (1 ≤ n ∧ n ≤ 4096) ∧ isIn L n = true := by
      unfold dropE at h
      split at h
      · rename_i q1
        split at h
        · rename_i q; exact ⟨q1, q⟩
        · cases h
      · cases h
    rw [if_pos h, bOf_del hr hi.2]
    simp [hi.1]
  · rw [if_neg h]
    by_cases q : (1 ≤ n ∧ n ≤ 4096) ∧ k = n
    · rw [if_pos q, q.2]
      have hi : isIn L n = false := by
        unfold dropE at h
        rw [if_pos q.1] at h
        cases hh : isIn L n with
        | true => rw [hh] at h; exact absurd rfl h
        | false => rfl
      rw [bOf_isIn] at hi
      cases hb : bOf L n with
      | none => rfl
      | some b => rw [hb] at hi; cases hi
    · rw [if_neg q]
theorem putE_is {L : List En} {n : Int} {x : Bd} (h1 : 1 ≤ n ∧ n ≤ 4096) : putE L n x = 0 ↔ x.ok ∧ bOf L n = none := by
  unfold putE
  rw [if_pos h1, bOf_isIn]
  by_cases hx : x.ok
  · rw [if_pos hx]
    cases bOf L n with
    | none => simp [hx]
    | some b => simp
  · rw [if_neg hx]; simp [hx]
theorem setE_is {L : List En} {n : Int} {x : Bd} (h1 : 1 ≤ n ∧ n ≤ 4096) : setE L n x = 0 ↔ x.ok ∧ ∃ b, bOf L n = some b := by
  unfold setE
  rw [if_pos h1, bOf_isIn]
  by_cases hx : x.ok
  · rw [if_pos hx]
    cases bOf L n with
    | none => simp
    | some b => simp [hx]
  · rw [if_neg hx]; simp [hx]
theorem ents_rise {mg : Int} : ∀ (l : List Bd) (i : Int), Rise (ents mg l i)
  | [], i => List.Pairwise.nil
  | x :: r, i => by
    rw [ents_cons]
    refine List.pairwise_append.2 ⟨?_, ents_rise r (i + 1), fun a ha b hb => ?_⟩
    · split <;> simp
    · have h2 := (ents_range hb).1
      split at ha
      · rw [List.mem_singleton.1 ha]; simp only; omega
      · cases ha
theorem bOf_ents {mg : Int} {l : List Bd} {k : Nat} {x : Bd} (hx : l[k]? = some x) : bOf (ents mg l 1) ((k : Int) + 1) = if x.ok then some x else none := by
  have hr := ents_rise (mg := mg) l 1
  by_cases h : x.ok
  · rw [if_pos h]
    exact (bOf_mem hr).2 (List.mem_map.2 ⟨⟨1 + k, x, grow x mg⟩, ents_mem.2 ⟨k, x, hx, h, rfl⟩, by simp only [Prod.mk.injEq, and_true]; omega⟩)
  · rw [if_neg h]
    cases hb : bOf (ents mg l 1) ((k : Int) + 1) with
    | none => rfl
    | some b =>
      obtain ⟨e, he, hee⟩ := List.mem_map.1 ((bOf_mem hr).1 hb)
      obtain ⟨j, y, hy, hyo, rfl⟩ := ents_mem.1 he
      simp only [Prod.mk.injEq] at hee
      have : j = k := by omega
      subst this
      rw [hx] at hy; cases hy
      exact absurd hyo h
theorem bOf_far {mg : Int} {l : List Bd} {n : Int} (h : (l.length : Int) < n) : bOf (ents mg l 1) n = none := by
  cases hb : bOf (ents mg l 1) n with
  | none => rfl
  | some b =>
    obtain ⟨e, he, hee⟩ := List.mem_map.1 ((bOf_mem (ents_rise l 1)).1 hb)
    have := (ents_range he).2
    simp only [Prod.mk.injEq] at hee
    omega
theorem ents_bare {mg mg' : Int} : ∀ (l : List Bd) (i : Int), bare (ents mg l i) = bare (ents mg' l i)
  | [], i => rfl
  | x :: r, i => by
    have ih := ents_bare (mg := mg) (mg' := mg') r (i + 1)
    rw [ents_cons, ents_cons]
    unfold bare at *
    rw [List.map_append, List.map_append, ih]
    congr 1
    split <;> rfl
theorem bOf_mg {mg mg' : Int} (l : List Bd) (n : Int) : bOf (ents mg l 1) n = bOf (ents mg' l 1) n := by
  cases hb : bOf (ents mg l 1) n with
  | some b =>
    have := (bOf_mem (ents_rise l 1)).1 hb
    rw [ents_bare (mg' := mg')] at this
    exact ((bOf_mem (ents_rise l 1)).2 this).symm
  | none =>
    cases hb' : bOf (ents mg' l 1) n with
    | none => rfl
    | some b =>
      have := (bOf_mem (ents_rise l 1)).1 hb'
      rw [ents_bare (mg' := mg)] at this
      have := (bOf_mem (ents_rise l 1)).2 this
      rw [hb] at this; cases this
/-- One of the others, put, set over one, that one set back, dropped: all is as it was. -/
theorem round_same {F0 : Int → Option Bd} {L : List En} {mg n k : Int} {x z : Bd} (hr : Rise L) (hF : ∀ j, bOf L j = F0 j) (hn : 1 ≤ n ∧ n ≤ 4096) (hk : 1 ≤ k ∧ k ≤ 4096) (hne : k ≠ n) (h0 : F0 n = none) (hz : F0 k = if z.ok then some z else none)
    (hr1 : Rise (putL mg L n x)) (hr2 : Rise (setL mg (putL mg L n x) k x)) (hr3 : Rise (setL mg (setL mg (putL mg L n x) k x) k z)) (j : Int) :
    bOf (dropL (setL mg (setL mg (putL mg L n x) k x) k z) n) j = F0 j := by
  rw [bOf_drop hr3, bOf_set hr2, bOf_set hr1, bOf_put hr, hF]
  by_cases e1 : j = n
  · rw [if_pos ⟨hn, e1⟩, e1, h0]
  · rw [if_neg fun q => e1 q.2]
    by_cases e2 : j = k
    · subst e2
      have b1 : bOf (putL mg L n x) j = F0 j := by rw [bOf_put hr, if_neg fun q => e1 q.2, hF]
      by_cases hzo : z.ok
      · rw [if_pos hzo] at hz
        have s2 : ∃ b, bOf (setL mg (putL mg L n x) j x) j = some b := by
          rw [bOf_set hr1]
          split
          · exact ⟨x, rfl⟩
          · exact ⟨z, by rw [b1, hz]⟩
        rw [if_pos ⟨(setE_is hk).2 ⟨hzo, s2⟩, rfl⟩, hz]
      · rw [if_neg hzo] at hz
        rw [if_neg fun q => hzo ((setE_is hk).1 q.1).1]
        rw [if_neg fun q => by
          obtain ⟨_, b, hb⟩ := (setE_is hk).1 q.1
          rw [b1, hz] at hb; cases hb]
        rw [if_neg fun q => e1 q.2]
    · rw [if_neg fun q => e2 q.2, if_neg fun q => e2 q.2, if_neg fun q => e1 q.2]
theorem round_alone {F0 : Int → Option Bd} {L : List En} {mg n : Int} {x : Bd} (hr : Rise L) (hF : ∀ j, bOf L j = F0 j) (hn : 1 ≤ n ∧ n ≤ 4096) (h0 : F0 n = none) (hr1 : Rise (putL mg L n x)) (j : Int) : bOf (dropL (putL mg L n x) n) j = F0 j := by
  rw [bOf_drop hr1, bOf_put hr, hF]
  by_cases e1 : j = n
  · rw [if_pos ⟨hn, e1⟩, e1, h0]
  · rw [if_neg fun q => e1 q.2, if_neg fun q => e1 q.2]
end TBa
end Go.Proofs.Ytbcjnckejkjfeaa
namespace Go.Proofs.Ytbcjnckejkjfeaa
set_option linter.unusedVariables false
set_option linter.unusedSimpArgs false
open Go.RowKit Go.NP
namespace LAn
open TrX QVl TrE TrI TAs TPu TDr TSt TNw TMe TPp TPr TAw TFi TWy TSm TBa
open OpL (SlB bdl)
theorem bd_lo {w : World} {g : Nat} {x : Bd} {T : TypeId} (h : Box w g [.int .i64 x.lo.x, .int .i64 x.lo.y, .int .i64 x.lo.z, .int .i64 x.hi.x, .int .i64 x.hi.y, .int .i64 x.hi.z] T) : At' w g 0 [.int .i64 x.lo.x, .int .i64 x.lo.y, .int .i64 x.lo.z] := fun j v hv => by
  rw [h.cell, Nat.zero_add]
  have hj : j < 3 := by
    rcases Nat.lt_or_ge j 3 with h | h
    · exact h
    · rw [List.getElem?_eq_none (by exact h)] at hv; cases hv
  rw [← hv]
  rcases (by omega : j = 0 ∨ j = 1 ∨ j = 2) with rfl | rfl | rfl <;> rfl
theorem bd_hi {w : World} {g : Nat} {x : Bd} {T : TypeId} (h : Box w g [.int .i64 x.lo.x, .int .i64 x.lo.y, .int .i64 x.lo.z, .int .i64 x.hi.x, .int .i64 x.hi.y, .int .i64 x.hi.z] T) : At' w g 3 [.int .i64 x.hi.x, .int .i64 x.hi.y, .int .i64 x.hi.z] := fun j v hv => by
  rw [h.cell]
  have hj : j < 3 := by
    rcases Nat.lt_or_ge j 3 with h | h
    · exact h
    · rw [List.getElem?_eq_none (by exact h)] at hv; cases hv
  rw [← hv]
  rcases (by omega : j = 0 ∨ j = 1 ∨ j = 2) with rfl | rfl | rfl <;> rfl
/-- The two trees, and the bound that is asked. -/
structure DQ (w0 w2 w : World) (gx : Nat) (x : Bd) (pa pc Ka Kc : Nat) (La Lc : List En) (Sa Sc : Nat → Prop) : Prop where
  bx : Box w gx [.int .i64 x.lo.x, .int .i64 x.lo.y, .int .i64 x.lo.z, .int .i64 x.hi.x, .int .i64 x.hi.y, .int .i64 x.hi.z] 35
  ta : TI w pa 0 La Sa Ka
  tc : TI w pc 1000 Lc Sc Kc
  nc : New w2 w Sc
  bel : Below w0.heap.size w0 w
theorem DQ.step {w0 w2 w w' : World} {gx : Nat} {x : Bd} {pa pc Ka Kc : Nat} {La Lc : List En} {Sa Sc : Nat → Prop} (h : DQ w0 w2 w gx x pa pc Ka Kc La Lc Sa Sc) (hS : Below w.heap.size w w') : DQ w0 w2 w' gx x pa pc Ka Kc La Lc Sa Sc :=
  ⟨h.bx.step hS, h.ta.step hS, h.tc.step hS, h.nc.step hS, h.bel.trans (hS.mono h.bel.size)⟩
theorem DQ.aft {w0 w2 w w' : World} {gx : Nat} {x : Bd} {pa pc Ka Kc Kc' : Nat} {La Lc Lc' : List En} {Sa Sc Sc' : Nat → Prop} (h : DQ w0 w2 w gx x pa pc Ka Kc La Lc Sa Sc) (h2 : TI w2 pa 0 La Sa Ka) (hx2 : Box w2 gx [.int .i64 x.lo.x, .int .i64 x.lo.y, .int .i64 x.lo.z, .int .i64 x.hi.x, .int .i64 x.hi.y, .int .i64 x.hi.z] 35) (h0 : Below w0.heap.size w0 w2) (ht : TI w' pc 1000 Lc' Sc' Kc') (ha : Aft2 w w' Sc Sc') : DQ w0 w2 w' gx x pa pc Ka Kc' La Lc' Sa Sc' := by
  have n := h.nc.aft ha
  exact ⟨hx2.step n.bel, h2.step n.bel, ht, n, h0.trans (n.bel.mono h0.size)⟩
theorem wraps (q : Nat) (h : q < 60) : wrap64 ((q : Int) + 1) = (q : Int) + 1 ∧ IntKind.i64.wrap (q : Int) = (q : Int) ∧ wrap64 (q : Int) = (q : Int) := by
  refine ⟨?_, ?_, ?_⟩
  · unfold wrap64; omega
  · rw [IntKind.wrap_i64]; omega
  · unfold wrap64; omega
theorem rem_ex (j n : Nat) (h0 : 0 < n) (hn : n ≤ 60) : ∃ q : Nat, q < n ∧ wrap64 ((j : Int) % (n : Int) + 1) = (q : Int) + 1 ∧ (IntKind.i64.wrap (q : Int) = (q : Int) ∧ 0 ≤ (q : Int) ∧ (q : Int) < (n : Int)) := by
  have h1 := Nat.mod_lt j h0
  obtain ⟨a, b, c⟩ := wraps (j % n) (by omega)
  refine ⟨j % n, h1, ?_, b, by omega, by omega⟩
  rw [← Int.natCast_emod]; exact a
theorem ents_len0 {mg : Int} : ∀ (l : List Bd) (i : Int), (ents mg l i).length ≤ l.length
  | [], i => Nat.le_refl _
  | x :: r, i => by
    have := ents_len0 (mg := mg) r (i + 1)
    rw [ents_cons, List.length_append, List.length_cons]
    split <;> simp <;> omega
theorem tell_len0 (q : Bd → Bool) (L : List En) : (tell q L).length ≤ L.length := by
  unfold tell; rw [List.length_map]; exact List.length_filter_le _ _
set_option maxRecDepth 100000 in
set_option maxHeartbeats 8000000 in
theorem lawGo {A B : Option Addr} {n m cap cap' : Nat} {l os : List Bd} {x : Bd} (w : World) (hs : SlB w A n l) (ho : SlB w B m os) (hn : n ≤ 60) (hm : m ≤ 60) : RetB Try.prog 5 #[.slice A n cap, .slice B m cap', .agg #[.int .i64 x.lo.x, .int .i64 x.lo.y, .int .i64 x.lo.z, .int .i64 x.hi.x, .int .i64 x.hi.y, .int .i64 x.hi.z]] w (.bool true) := by
  have hb : Below w.heap.size w (w.alloc (.cells #[.int .i64 x.lo.x, .int .i64 x.lo.y, .int .i64 x.lo.z, .int .i64 x.hi.x, .int .i64 x.hi.y, .int .i64 x.hi.z] 35)) := (Below.refl _ _).alloc (Nat.le_refl _) _
  have hbx : Box (w.alloc (.cells #[.int .i64 x.lo.x, .int .i64 x.lo.y, .int .i64 x.lo.z, .int .i64 x.hi.x, .int .i64 x.hi.y, .int .i64 x.hi.z] 35)) w.heap.size [.int .i64 x.lo.x, .int .i64 x.lo.y, .int .i64 x.lo.z, .int .i64 x.hi.x, .int .i64 x.hi.y, .int .i64 x.hi.z] 35 := Box.new rfl
  have HL := Lib.hid hs; have HO := Lib.hid ho
  have hln := hs.1; have hom := ho.1
  have t2 : decide ((60 : Int) < (n : Int)) = false := decide_eq_false (by omega)
  have t3 : decide ((60 : Int) < (m : Int)) = false := decide_eq_false (by omega)
  clear hs ho
  obtain ⟨gx, hgx⟩ : ∃ g, w.heap.size = g := ⟨_, rfl⟩
  unfold RetB
  go_enter Try.func5, Try.ntmps5
  go_wp2_with fail
  revert hb hbx
  generalize (w.alloc (.cells #[.int .i64 x.lo.x, .int .i64 x.lo.y, .int .i64 x.lo.z, .int .i64 x.hi.x, .int .i64 x.hi.y, .int .i64 x.hi.z] 35)) = w1
  intro hb hbx
  rw [hgx] at hbx
  refine (filledC (mg := 0) w1 (by omega) (HL.out.step hb) (by omega)).mono ?_
  rintro e w2 ⟨pa, Sa, rfl, ha, na⟩
  have hx2 := hbx.step na.bel
  have hb2 := hb.trans (na.bel.mono hb.size)
  clear hbx na hb
  go_wp2_with fail
  refine (filledC (mg := 1000) w2 (by omega) (HL.out.step hb2) (by omega)).mono ?_
  rintro e w3 ⟨pc, Sc0, rfl, hc, nc⟩
  have hD0 : DQ w w2 w3 gx x pa pc (4 * n) (4 * n) (ents 0 l 1) (ents 1000 l 1) Sa Sc0 := ⟨hx2.step nc.bel, ha.step nc.bel, hc, nc, hb2.trans (nc.bel.mono hb2.size)⟩
  have HA2 := Lib.hid ha; have HX2 := Lib.hid hx2; have HB2 := Lib.hid hb2
  clear ha hc nc hx2 hb2
  go_wp2_with fail
  go_loopw [9] (fun i wr => ∃ (j : Nat) (Lc : List En) (Sc : Nat → Prop), i = .int .i64 (j : Int) ∧ j ≤ m ∧ DQ w w2 wr gx x pa pc (4 * n) (4 * n + 16 * j) (ents 0 l 1) Lc Sa Sc ∧ ∀ k, bOf Lc k = bOf (ents 0 l 1) k) (fun i _ => m - (RowKit.intOf i).toNat)
  case atStart => exact ⟨0, _, Sc0, rfl, Nat.zero_le _, hD0, fun k => bOf_mg l k⟩
  case round =>
    clear hD0
    obtain ⟨j, Lc, Sc, rfl, hj, hD, hF⟩ := hrel
    have HD := Lib.hid hD; have HFF := Lib.hid hF
    clear hD hF
    by_cases hlt : j < m
    · have t1 : decide ((j : Int) < (m : Int)) = true := by simpa using hlt
      have v1 : IntKind.i64.wrap ((j : Int) + 1) = ((j + 1 : Nat) : Int) := by rw [IntKind.wrap_i64]; omega
      have v2 : IntKind.i64.wrap ((100 : Int) + (j : Int)) = (100 : Int) + (j : Int) := by rw [IntKind.wrap_i64]; omega
      obtain ⟨y, hy⟩ : ∃ y, os[j]? = some y := ⟨_, List.getElem?_eq_getElem (by omega)⟩
      obtain ⟨b, off, rfl, hbo, hat⟩ := HO.out.2 (by omega)
      have HY := Lib.hid (fun (u : World) (hu : Below w.heap.size w u) => (show At' u b (off + j * 6) [.int .i64 y.lo.x, .int .i64 y.lo.y, .int .i64 y.lo.z, .int .i64 y.hi.x, .int .i64 y.hi.y, .int .i64 y.hi.z] from (hat j y hy).step hbo hu))
      have HYL := Lib.hid (fun (u : World) (hu : Below w.heap.size w u) => (show b < u.heap.size by have := hu.size; omega))
      have j0 : 0 ≤ (j : Int) ∧ (j : Int) < (m : Int) := by omega
      clear hat hy
      go_wp2_with (refine wpL_at (l := [.int .i64 y.lo.x, .int .i64 y.lo.y, .int .i64 y.lo.z, .int .i64 y.hi.x, .int .i64 y.hi.y, .int .i64 y.hi.z]) (by rfl) (by rfl) (HY.out wr HD.out.bel) Try.underlying35 (by rfl) (by kernel_rfl) (by kernel_rfl) ?_; (conv => arg 5; simp only [Act.put, List.setIfInBounds_toArray, List.set_cons_zero, List.set_cons_succ]))
      refine (putC (n := (100 : Int) + (j : Int)) (x := y) wr HD.out.tc (by omega)).mono ?_
      rintro e w4 ⟨rfl, S4, h4, a4⟩
      have HD4 := Lib.hid (HD.out.aft HA2.out HX2.out HB2.out h4 a4)
      have hr0 := HD.out.tc.rise
      clear h4 a4 HD
      by_cases hn0 : 0 < n
      · have t4 : decide ((0 : Int) < (n : Int)) = true := by simpa using hn0
        obtain ⟨q, hqn, hE, v567⟩ := rem_ex j n hn0 hn
        have HV := Lib.hid v567
        have HE := Lib.hid hE
        clear v567 hE
        obtain ⟨z, hz⟩ : ∃ z, l[q]? = some z := ⟨_, List.getElem?_eq_getElem (by omega)⟩
        obtain ⟨b2, off2, rfl, hbl, hatl⟩ := HL.out.2 (by omega)
        have HZ := Lib.hid (fun (u : World) (hu : Below w.heap.size w u) => (show At' u b2 (off2 + q * 6) [.int .i64 z.lo.x, .int .i64 z.lo.y, .int .i64 z.lo.z, .int .i64 z.hi.x, .int .i64 z.hi.y, .int .i64 z.hi.z] from (hatl q z hz).step hbl hu))
        have HZQ := Lib.hid hz
        clear hatl hz
        go_wp2_with (refine wpL_at (l := [.int .i64 y.lo.x, .int .i64 y.lo.y, .int .i64 y.lo.z, .int .i64 y.hi.x, .int .i64 y.hi.y, .int .i64 y.hi.z]) (by rfl) (by rfl) (HY.out w4 HD4.out.bel) Try.underlying35 (by rfl) (by kernel_rfl) (by kernel_rfl) ?_; (conv => arg 5; simp only [Act.put, List.setIfInBounds_toArray, List.set_cons_zero, List.set_cons_succ]))
        rw [HE.out]
        refine (setC (n := (q : Int) + 1) (x := y) w4 HD4.out.tc (by omega)).mono ?_
        rintro e w5 ⟨rfl, S5, h5, a5⟩
        have HD5 := Lib.hid (HD4.out.aft HA2.out HX2.out HB2.out h5 a5)
        have hr1 := HD4.out.tc.rise
        clear h5 a5 HD4
        obtain ⟨v6, q0⟩ := HV.out
        go_wp2_with (refine wpL_at (l := [.int .i64 z.lo.x, .int .i64 z.lo.y, .int .i64 z.lo.z, .int .i64 z.hi.x, .int .i64 z.hi.y, .int .i64 z.hi.z]) (by rfl) (by rfl) (HZ.out w5 HD5.out.bel) Try.underlying35 (by rfl) (by kernel_rfl) (by kernel_rfl) ?_; (conv => arg 5; simp only [Act.put, List.setIfInBounds_toArray, List.set_cons_zero, List.set_cons_succ]))
        clear v6 q0 HV
        refine (setC (n := (q : Int) + 1) (x := z) w5 HD5.out.tc (by omega)).mono ?_
        rintro e w6 ⟨rfl, S6, h6, a6⟩
        have HD6 := Lib.hid (HD5.out.aft HA2.out HX2.out HB2.out h6 a6)
        have hr2 := HD5.out.tc.rise
        clear h6 a6 HD5
        go_wp2_with fail
        refine (dropC (n := (100 : Int) + (j : Int)) w6 HD6.out.tc (by omega)).mono ?_
        rintro e w7 ⟨rfl, S7, h7, a7⟩
        have h7' := h7.mono (show 4 * n + 16 * j + 4 + 4 + 4 + 4 ≤ 4 * n + 16 * (j + 1) by omega)
        have hD7 := HD6.out.aft HA2.out HX2.out HB2.out h7' a7
        have hr3 := HD6.out.tc.rise
        have hsame := round_same (F0 := bOf (ents 0 l 1)) (mg := 1000) (n := (100 : Int) + (j : Int)) (k := (q : Int) + 1) (x := y) (z := z) hr0 HFF.out (by omega) (by omega) (by omega) (bOf_far (by omega)) (bOf_ents HZQ.out) hr1 hr2 hr3
        clear h7 a7 h7' HD6 hr0 hr1 hr2 hr3
        go_wp2_with fail
        exact ⟨⟨j + 1, _, S7, rfl, by omega, hD7, hsame⟩, by simp [RowKit.intOf]; omega⟩
      · have t4 : decide ((0 : Int) < (n : Int)) = false := by simpa using hn0
        go_wp2_with fail
        refine (dropC (n := (100 : Int) + (j : Int)) w4 HD4.out.tc (by omega)).mono ?_
        rintro e w7 ⟨rfl, S7, h7, a7⟩
        have h7' := h7.mono (show 4 * n + 16 * j + 4 + 4 ≤ 4 * n + 16 * (j + 1) by omega)
        have hD7 := HD4.out.aft HA2.out HX2.out HB2.out h7' a7
        have hr1 := HD4.out.tc.rise
        have hsame := round_alone (F0 := bOf (ents 0 l 1)) (mg := 1000) (n := (100 : Int) + (j : Int)) (x := y) hr0 HFF.out (by omega) (bOf_far (by omega)) hr1
        clear h7 a7 h7' HD4 hr0 hr1
        go_wp2_with fail
        exact ⟨⟨j + 1, _, S7, rfl, by omega, hD7, hsame⟩, by simp [RowKit.intOf]; omega⟩
    · obtain rfl : j = m := by omega
      have t1 : decide ((j : Int) < (j : Int)) = false := by simp
      have hbare : bare Lc = bare (ents 0 l 1) := bare_ext HD.out.tc.rise (ents_rise l 1) HFF.out
      have hll : (ents 0 l 1).length ≤ 60 := by have := ents_len0 (mg := 0) l 1; omega
      have hlc : Lc.length = (ents 0 l 1).length := by rw [← len_bare, hbare, len_bare]
      have em : meetL Lc x = meetL (ents 0 l 1) x := by unfold meetL; rw [tell_bare, tell_bare, hbare]
      have ew : wayL Lc x.lo x.hi = wayL (ents 0 l 1) x.lo x.hi := by unfold wayL; rw [tell_bare, tell_bare, hbare]
      have ep : pairsP Lc = pairsP (ents 0 l 1) := by rw [pairs_bare, pairs_bare, hbare]
      obtain ⟨ml, hml⟩ : ∃ ml, meetL (ents 0 l 1) x = ml := ⟨_, rfl⟩
      obtain ⟨wl, hwl⟩ : ∃ wl, wayL (ents 0 l 1) x.lo x.hi = wl := ⟨_, rfl⟩
      obtain ⟨pl, hpl⟩ : ∃ pl, pairsP (ents 0 l 1) = pl := ⟨_, rfl⟩
      have lml : ml.length ≤ 100000 := by rw [← hml]; exact Nat.le_trans (tell_len0 _ _) (by omega)
      have lwl : wl.length ≤ 100000 := by rw [← hwl]; exact Nat.le_trans (tell_len0 _ _) (by omega)
      have lpl : pl.length ≤ 100000 := by rw [← hpl]; have := pairs_len (ents 0 l 1); have := Nat.mul_le_mul hll hll; omega
      clear hbare HFF
      go_wp2_with (first | (refine wpL_load (l := [.int .i64 x.lo.x, .int .i64 x.lo.y, .int .i64 x.lo.z, .int .i64 x.hi.x, .int .i64 x.hi.y, .int .i64 x.hi.z]) (by rfl) (by rfl) HD.out.bx Try.underlying35 (by rfl) (by kernel_rfl) (by kernel_rfl) ?_; (conv => arg 5; simp only [Act.put, List.setIfInBounds_toArray, List.set_cons_zero, List.set_cons_succ])) | (refine wpL_at (l := [.int .i64 x.lo.x, .int .i64 x.lo.y, .int .i64 x.lo.z]) (by rfl) (by rfl) (bd_lo HD.out.bx) Try.underlying33 (by rfl) (by kernel_rfl) (by kernel_rfl) ?_; (conv => arg 5; simp only [Act.put, List.setIfInBounds_toArray, List.set_cons_zero, List.set_cons_succ])) | (refine wpL_at (l := [.int .i64 x.hi.x, .int .i64 x.hi.y, .int .i64 x.hi.z]) (by rfl) (by rfl) (bd_hi HD.out.bx) Try.underlying33 (by rfl) (by kernel_rfl) (by kernel_rfl) ?_; (conv => arg 5; simp only [Act.put, List.setIfInBounds_toArray, List.set_cons_zero, List.set_cons_succ])))
      refine (tmeetC (x := x) wr HD.out.ta (by omega)).mono ?_
      rintro e w4 ⟨⟨v1, rfl, hv1⟩, hb4⟩
      rw [hml] at hv1
      have HD4 := Lib.hid (HD.out.step hb4)
      have HV1 := Lib.hid hv1
      clear HD hb4 hv1
      go_wp2_with (first | (refine wpL_load (l := [.int .i64 x.lo.x, .int .i64 x.lo.y, .int .i64 x.lo.z, .int .i64 x.hi.x, .int .i64 x.hi.y, .int .i64 x.hi.z]) (by rfl) (by rfl) HD4.out.bx Try.underlying35 (by rfl) (by kernel_rfl) (by kernel_rfl) ?_; (conv => arg 5; simp only [Act.put, List.setIfInBounds_toArray, List.set_cons_zero, List.set_cons_succ])) | (refine wpL_at (l := [.int .i64 x.lo.x, .int .i64 x.lo.y, .int .i64 x.lo.z]) (by rfl) (by rfl) (bd_lo HD4.out.bx) Try.underlying33 (by rfl) (by kernel_rfl) (by kernel_rfl) ?_; (conv => arg 5; simp only [Act.put, List.setIfInBounds_toArray, List.set_cons_zero, List.set_cons_succ])) | (refine wpL_at (l := [.int .i64 x.hi.x, .int .i64 x.hi.y, .int .i64 x.hi.z]) (by rfl) (by rfl) (bd_hi HD4.out.bx) Try.underlying33 (by rfl) (by kernel_rfl) (by kernel_rfl) ?_; (conv => arg 5; simp only [Act.put, List.setIfInBounds_toArray, List.set_cons_zero, List.set_cons_succ])))
      refine (tmeetC (x := x) w4 HD4.out.tc (by omega)).mono ?_
      rintro e w5 ⟨⟨v2, rfl, hv2⟩, hb5⟩
      rw [em, hml] at hv2
      have HD5 := Lib.hid (HD4.out.step hb5)
      have HV1b := Lib.hid (HV1.out.step hb5); have HV2 := Lib.hid hv2
      clear HD4 HV1 hb5 hv2
      obtain ⟨er, her⟩ : ∃ er, errIf x.ok = er := ⟨_, rfl⟩
      rw [her]
      go_wp2_with (first | (refine wpL_load (l := [.int .i64 x.lo.x, .int .i64 x.lo.y, .int .i64 x.lo.z, .int .i64 x.hi.x, .int .i64 x.hi.y, .int .i64 x.hi.z]) (by rfl) (by rfl) HD5.out.bx Try.underlying35 (by rfl) (by kernel_rfl) (by kernel_rfl) ?_; (conv => arg 5; simp only [Act.put, List.setIfInBounds_toArray, List.set_cons_zero, List.set_cons_succ])) | (refine wpL_at (l := [.int .i64 x.lo.x, .int .i64 x.lo.y, .int .i64 x.lo.z]) (by rfl) (by rfl) (bd_lo HD5.out.bx) Try.underlying33 (by rfl) (by kernel_rfl) (by kernel_rfl) ?_; (conv => arg 5; simp only [Act.put, List.setIfInBounds_toArray, List.set_cons_zero, List.set_cons_succ])) | (refine wpL_at (l := [.int .i64 x.hi.x, .int .i64 x.hi.y, .int .i64 x.hi.z]) (by rfl) (by rfl) (bd_hi HD5.out.bx) Try.underlying33 (by rfl) (by kernel_rfl) (by kernel_rfl) ?_; (conv => arg 5; simp only [Act.put, List.setIfInBounds_toArray, List.set_cons_zero, List.set_cons_succ])))
      refine (wayC w5 HD5.out.ta (by omega)).mono ?_
      rintro e w6 ⟨⟨v3, rfl, hv3⟩, hb6⟩
      rw [hwl] at hv3
      have HD6 := Lib.hid (HD5.out.step hb6)
      have HV1c := Lib.hid (HV1b.out.step hb6); have HV2c := Lib.hid (HV2.out.step hb6); have HV3 := Lib.hid hv3
      clear HD5 HV1b HV2 hb6 hv3
      go_wp2_with (first | (refine wpL_load (l := [.int .i64 x.lo.x, .int .i64 x.lo.y, .int .i64 x.lo.z, .int .i64 x.hi.x, .int .i64 x.hi.y, .int .i64 x.hi.z]) (by rfl) (by rfl) HD6.out.bx Try.underlying35 (by rfl) (by kernel_rfl) (by kernel_rfl) ?_; (conv => arg 5; simp only [Act.put, List.setIfInBounds_toArray, List.set_cons_zero, List.set_cons_succ])) | (refine wpL_at (l := [.int .i64 x.lo.x, .int .i64 x.lo.y, .int .i64 x.lo.z]) (by rfl) (by rfl) (bd_lo HD6.out.bx) Try.underlying33 (by rfl) (by kernel_rfl) (by kernel_rfl) ?_; (conv => arg 5; simp only [Act.put, List.setIfInBounds_toArray, List.set_cons_zero, List.set_cons_succ])) | (refine wpL_at (l := [.int .i64 x.hi.x, .int .i64 x.hi.y, .int .i64 x.hi.z]) (by rfl) (by rfl) (bd_hi HD6.out.bx) Try.underlying33 (by rfl) (by kernel_rfl) (by kernel_rfl) ?_; (conv => arg 5; simp only [Act.put, List.setIfInBounds_toArray, List.set_cons_zero, List.set_cons_succ])))
      refine (wayC w6 HD6.out.tc (by omega)).mono ?_
      rintro e w7 ⟨⟨v4, rfl, hv4⟩, hb7⟩
      rw [ew, hwl] at hv4
      have HD7 := Lib.hid (HD6.out.step hb7)
      have HV1d := Lib.hid (HV1c.out.step hb7); have HV2d := Lib.hid (HV2c.out.step hb7); have HV3d := Lib.hid (HV3.out.step hb7); have HV4 := Lib.hid hv4
      clear HD6 HV1c HV2c HV3 hb7 hv4
      obtain ⟨es, hes⟩ : ∃ es, errIf (x.lo.ok ∧ x.hi.ok) = es := ⟨_, rfl⟩
      rw [hes]
      have u1 : (er == er) = true := by simp
      have u2 : (es == es) = true := by simp
      have u3 : (((ents 0 l 1).length : Int) == ((ents 0 l 1).length : Int)) = true := by simp
      go_wp2_with fail
      refine Calls.mono (sameIntsC w7 HV1d.out HV2d.out lml) ?_
      rintro e w8 ⟨rfl, hb8⟩
      have HD8 := Lib.hid (HD7.out.step hb8)
      have HV3e := Lib.hid (HV3d.out.step hb8); have HV4e := Lib.hid (HV4.out.step hb8)
      clear HD7 HV1d HV2d HV3d HV4 hb8
      go_wp2_with fail
      refine Calls.mono (sameIntsC w8 HV3e.out HV4e.out lwl) ?_
      rintro e w9 ⟨rfl, hb9⟩
      have HD9 := Lib.hid (HD8.out.step hb9)
      clear HD8 HV3e HV4e hb9
      go_wp2_with fail
      refine (pairsC w9 HD9.out.ta (by omega) (by omega)).mono ?_
      rintro e w10 ⟨⟨p1, rfl, hp1⟩, hb10⟩
      rw [hpl] at hp1
      have HD10 := Lib.hid (HD9.out.step hb10)
      have HP1 := Lib.hid hp1
      clear HD9 hb10 hp1
      go_wp2_with fail
      refine (pairsC w10 HD10.out.tc (by omega) (by omega)).mono ?_
      rintro e w11 ⟨⟨p2, rfl, hp2⟩, hb11⟩
      rw [ep, hpl] at hp2
      have HD11 := Lib.hid (HD10.out.step hb11)
      have HP1b := Lib.hid (HP1.out.step hb11); have HP2 := Lib.hid hp2
      clear HD10 HP1 hb11 hp2
      go_wp2_with fail
      refine Calls.mono (samePairsC w11 HP1b.out HP2.out lpl) ?_
      rintro e w12 ⟨rfl, hb12⟩
      have HD12 := Lib.hid (HD11.out.step hb12)
      clear HD11 HP1b HP2 hb12
      go_wp2_with fail
      refine Calls.mono (lenC w12 HD12.out.ta) ?_
      rintro e w13 ⟨rfl, hb13⟩
      have HD13 := Lib.hid (HD12.out.step hb13)
      clear HD12 hb13
      go_wp2_with fail
      refine Calls.mono (lenC w13 HD13.out.tc) ?_
      rintro e w14 ⟨rfl, hb14⟩
      rw [hlc]
      have HD14 := Lib.hid (HD13.out.step hb14)
      clear HD13 hb14
      go_wp2_with fail
      refine Calls.mono (awakeC w14) ?_
      rintro e w15 ⟨rfl, hb15⟩
      have hB := HD14.out.bel.trans (hb15.mono HD14.out.bel.size)
      go_wp2_with fail
      exact bodyPost_ret (v := .bool true) (by simp [results, Try.results5, go_sem]) rfl ⟨rfl, hB⟩
theorem lawBig1 {A B : Option Addr} {n m cap cap' : Nat} {x : Bd} (w : World) (hn : ¬ n ≤ 60) : RetB Try.prog 5 #[.slice A n cap, .slice B m cap', .agg #[.int .i64 x.lo.x, .int .i64 x.lo.y, .int .i64 x.lo.z, .int .i64 x.hi.x, .int .i64 x.hi.y, .int .i64 x.hi.z]] w (.bool true) := by
  have hb : Below w.heap.size w (w.alloc (.cells #[.int .i64 x.lo.x, .int .i64 x.lo.y, .int .i64 x.lo.z, .int .i64 x.hi.x, .int .i64 x.hi.y, .int .i64 x.hi.z] 35)) := (Below.refl _ _).alloc (Nat.le_refl _) _
  have t2 : decide ((60 : Int) < (n : Int)) = true := decide_eq_true (by omega)
  unfold RetB
  go_enter Try.func5, Try.ntmps5
  go_wp2_with fail
  refine Calls.mono (awakeC _) ?_
  rintro e w7 ⟨rfl, hb7⟩
  go_wp2_with fail
  exact bodyPost_ret (v := .bool true) (by simp [results, Try.results5, go_sem]) rfl ⟨rfl, hb.trans (hb7.mono hb.size)⟩
theorem lawBig2 {A B : Option Addr} {n m cap cap' : Nat} {x : Bd} (w : World) (hn : n ≤ 60) (hm : ¬ m ≤ 60) : RetB Try.prog 5 #[.slice A n cap, .slice B m cap', .agg #[.int .i64 x.lo.x, .int .i64 x.lo.y, .int .i64 x.lo.z, .int .i64 x.hi.x, .int .i64 x.hi.y, .int .i64 x.hi.z]] w (.bool true) := by
  have hb : Below w.heap.size w (w.alloc (.cells #[.int .i64 x.lo.x, .int .i64 x.lo.y, .int .i64 x.lo.z, .int .i64 x.hi.x, .int .i64 x.hi.y, .int .i64 x.hi.z] 35)) := (Below.refl _ _).alloc (Nat.le_refl _) _
  have t2 : decide ((60 : Int) < (n : Int)) = false := decide_eq_false (by omega)
  have t3 : decide ((60 : Int) < (m : Int)) = true := decide_eq_true (by omega)
  unfold RetB
  go_enter Try.func5, Try.ntmps5
  go_wp2_with fail
  refine Calls.mono (awakeC _) ?_
  rintro e w7 ⟨rfl, hb7⟩
  go_wp2_with fail
  exact bodyPost_ret (v := .bool true) (by simp [results, Try.results5, go_sem]) rfl ⟨rfl, hb.trans (hb7.mono hb.size)⟩
theorem law {A B : Option Addr} {n m : Nat} {l os : List Bd} (cap cap' : Nat) (x : Bd) (w : World) (hs : SlB w A n l) (ho : SlB w B m os) : RetB Try.prog 5 #[.slice A n cap, .slice B m cap', .agg #[.int .i64 x.lo.x, .int .i64 x.lo.y, .int .i64 x.lo.z, .int .i64 x.hi.x, .int .i64 x.hi.y, .int .i64 x.hi.z]] w (.bool true) := by
  by_cases hn : n ≤ 60
  · by_cases hm : m ≤ 60
    · exact lawGo w hs ho hn hm
    · exact lawBig2 w hn hm
  · exact lawBig1 w hn
end LAn
end Go.Proofs.Ytbcjnckejkjfeaa
namespace Go.Proofs.Ytbcjnckejkjfeaa
set_option linter.unusedVariables false
open Go.Joins Go.ChangeShapes Go.WideShapes Go.ChangeAt Go.RowKit Go.Deep Go.NP
set_option maxRecDepth 100000 in
theorem treeAnyLifted (os : Os) (started : os.Started) (H : Type) (enc : TypeId × Value → H) :
    ReturnsInHanded {} Try.checked os 5 .any (Rows.treeAnySpec.pre6 enc Try.prog Try.f5 Rows.treeAnyRow.domain false) (Rows.treeAnySpec.post enc Try.prog Try.f5 false true false false) := by
  refine returnsInHanded_of_change (C := Try.checked) own started (by kernel_rfl) Try.func5
    (ChangeSpec.witness6 (enc := enc) (C := Try.checked) false ⟨#[], #[.slice none 0 0, .slice none 0 0, .agg #[.int .i64 bzero.lo.x, .int .i64 bzero.lo.y, .int .i64 bzero.lo.z, .int .i64 bzero.hi.x, .int .i64 bzero.hi.y, .int .i64 bzero.hi.z]], []⟩ 8 (by kernel_rfl) (by kernel_rfl) (by kernel_rfl) (by kernel_rfl)) ?_
  intro W base args ds gs before hval0 hW hcnd _
  have hval : ∀ (j : Nat) t v, Try.f5.params[j]? = some t → args[j]? = some v → Value.okWide Try.prog W .any base t v := hval0
  have hW' := hW
  obtain ⟨p, q, hA0, hV, rfl, hfz, hnd⟩ := hW
  have hA : DataW.TrodAll enc Try.prog W 0 (fun _ => true) true Try.f5.params.toList args.toList ds p := hA0
  rw [Try.params5] at hA hval
  obtain ⟨v0, vs0, d0, ds0, p0, q0, hargs, rfl, rfl, h0, r0⟩ := trodAll_cons hA
  obtain ⟨v1, vs1, d1, ds1, p1, q1, rfl, rfl, rfl, h1, r1⟩ := trodAll_cons r0
  obtain ⟨v2, vs2, d2, ds2, p2, q2, rfl, rfl, rfl, h2, r2⟩ := trodAll_cons r1
  obtain ⟨rfl, rfl, rfl⟩ := trodAll_nil r2
  obtain rfl : args = #[v0, v1, v2] := by cases args; simp_all
  obtain ⟨rfl, rfl⟩ := trodVars_none hV
  have k0 := h0
  have lt0 : ∀ x ∈ p0, x.block < W.heap.size := by obtain ⟨m, hm⟩ := k0; exact DataW.trod_lt m _ _ _ hm
  have k1 := h1
  have lt1 : ∀ x ∈ p1, x.block < W.heap.size := by obtain ⟨m, hm⟩ := k1; exact DataW.trod_lt m _ _ _ hm
  have k2 := h2
  have lt2 : ∀ x ∈ p2, x.block < W.heap.size := by obtain ⟨m, hm⟩ := k2; exact DataW.trod_lt m _ _ _ hm
  obtain ⟨A0, n0, c0, a0, rfl, hs0⟩ := OpL.open_bds (hval 0 22 v0 rfl rfl) h0
  obtain ⟨A1, n1, c1, a1, rfl, hs1⟩ := OpL.open_bds (hval 1 22 v1 rfl rfl) h1
  obtain ⟨a2, rfl⟩ := open_bd (hval 2 35 v2 rfl rfl) h2
  clear hA0 hval0
  refine Calls.mono (LAn.law c0 c1 a2 W hs0 hs1) fun e W' ⟨he, bel⟩ => ?_
  subst he
  exact ⟨_, rfl, _, _, _, [], _, [], hW', trodAll_mk1 (shut_bool Try.underlying4 _), (trodAll_cons_mk (Below.trod laidOut (by kernel_rfl) (of_decide_eq_true (by kernel_rfl)) k0 bel lt0) (trodAll_cons_mk (Below.trod laidOut (by kernel_rfl) (of_decide_eq_true (by kernel_rfl)) k1 bel lt1) (trodAll_cons_mk (Below.trod laidOut (by kernel_rfl) (of_decide_eq_true (by kernel_rfl)) k2 bel lt2) trodAll_mk0))), rfl, bel.frame _, fun h => by cases h⟩
theorem treeAny_holds : Rows.TreeAnySaid :=
  OpenClaim.holds_of_wide 5 Try.f5 rfl rfl rfl rfl rfl rfl rfl ⟨rfl, rfl, rfl, rfl, rfl⟩ rfl rfl rfl rfl rfl (by kernel_rfl) Try.func5 (by kernel_rfl)
    (of_decide_eq_true (by kernel_rfl)) (by unfold Func.isWrapper; first | (rw [if_pos (by decide +kernel)]; kernel_rfl) | (rw [if_neg (by decide +kernel)]; exact ⟨rfl, rfl⟩))
    (fun os started H enc _ => treeAnyLifted os started H enc)
end Go.Proofs.Ytbcjnckejkjfeaa
