/- Are pairs in order; are two slices of pairs the same; is a pair among others: the walks. Condition: the slices' cells are as told. -/
import Derived.Test.YtocelepohkbooaaQCk
namespace Go.Proofs.Ytocelepohkbooaa
set_option linter.unusedVariables false
set_option linter.unusedSimpArgs false
open Go.RowKit Go.NP
namespace QCl
open QCk
theorem cf24 (args : Array Value) (w1 : World) : (callFunc 24 args).run Try.prog w1 = .ok (.enter 24 args) w1 := enters Try.func24 (by kernel_rfl) (by kernel_rfl) args w1
theorem cf28 (args : Array Value) (w1 : World) : (callFunc 28 args).run Try.prog w1 = .ok (.enter 28 args) w1 := enters Try.func28 (by kernel_rfl) (by kernel_rfl) args w1
set_option maxRecDepth 100000 in
set_option maxHeartbeats 2000000 in
theorem checkC {A : Option Addr} {n : Nat} (cap : Nat) {l : List Pr} (w : World) (h : SlS w A n l) : RetB Try.prog 12 #[.slice A n cap] w (.int .i64 (checkS l)) := by
  have hln := h.1
  have H := Lib.hid h
  have HF := Lib.hid (fineC cap w h)
  clear h
  by_cases hf : fineS l = 0
  · obtain ⟨hi, hok⟩ := fineS_ok hf
    obtain ⟨r, hr⟩ : ∃ r, checkS l = r := ⟨_, rfl⟩
    have HR := Lib.hid (show (if risen l then 0 else 2) = r from by rw [← hr]; unfold checkS; rw [if_pos hf])
    have HOK := Lib.hid hok
    have hn6 : n ≤ 65536 := by omega
    rw [hr]
    clear hr hok
    have HF2 := Lib.hid (HF.out.eq (v' := .int .i64 0) (by rw [hf]))
    clear HF hf
    unfold RetB
    go_enter Try.func12, Try.ntmps12
    go_wp2_with fail
    refine HF2.out.mono ?_
    rintro e w0 ⟨rfl, hW⟩
    go_wp2_with fail
    go_loopw [4] (fun i wr => ∃ j : Nat, (j + 1 ≤ n ∨ j = 0) ∧ i = .int .i64 ((j : Int) + 1) ∧ risen (l.take (j + 1)) ∧ Below w.heap.size w wr) (fun i _ => n - (intOf i).toNat)
    case atStart => exact ⟨0, .inr rfl, rfl, by cases l with
      | nil => exact List.Pairwise.nil
      | cons x r => exact List.pairwise_singleton _ _, hW⟩
    case round =>
      clear hW
      obtain ⟨j, hj, rfl, hrs, hW⟩ := hrel
      by_cases hlt : j + 1 < n
      · obtain ⟨p, hp⟩ : ∃ p, l[j]? = some p := ⟨_, List.getElem?_eq_getElem (by omega)⟩
        obtain ⟨q, hq⟩ : ∃ q, l[j + 1]? = some q := ⟨_, List.getElem?_eq_getElem (by omega)⟩
        obtain ⟨b, off, rfl, hb, hs⟩ := H.out.2 (by omega)
        have at1 := Lib.hid (hs.step hb hW j p hp)
        have at2 := Lib.hid (hs.step hb hW (j + 1) q hq)
        have okp := HOK.out p (List.mem_of_getElem? hp); have okq := HOK.out q (List.mem_of_getElem? hq)
        have O := Lib.hid (fun w => orderC okp okq w)
        have t1 : decide ((j : Int) + 1 < (n : Int)) = true := decide_eq_true (by omega)
        have hj1 : 0 ≤ (j : Int) + 1 ∧ (j : Int) + 1 < n := by omega
        have hj0 : 0 ≤ (j : Int) ∧ (j : Int) < n := by omega
        have wj2 : IntKind.i64.wrap ((j : Int) + 1 + 1) = (j : Int) + 1 + 1 := by rw [IntKind.wrap_i64]; omega
        have wj3 : wrap64 ((j : Int) + 1 + 1) = (j : Int) + 1 + 1 := by unfold wrap64; omega
        have wj : IntKind.i64.wrap (j : Int) = j := by rw [IntKind.wrap_i64]; omega
        have hbz : b < wr.heap.size := by have := hW.size; omega
        have GO := Lib.hid (fun c : ltP p q => risen_snoc (k := j + 1) hp hq (by omega) hrs c)
        have NO := Lib.hid (fun c : ¬ ltP p q => risen_bad (k := j + 1) hp hq (by omega) c)
        clear hp hq hs hrs okp okq
        iterate 4 go_step
        iterate 4 (with_reducible refine wpL_val (v := ?_) ?_ ?_ ?_; rotate_left; (· kernel_rfl); (· go_simp; try with_reducible rfl); conv => arg 5; simp only [Act.put, List.setIfInBounds_toArray, List.set_cons_zero, List.set_cons_succ])
        refine wpList_nil ?_
        iterate 9 go_step
        refine wp_region_ph [(11, .free [])] (by kernel_rfl) (by kernel_rfl) ?_
        refine Ph.belowd ?_
        simp only [List.drop_succ_cons, List.drop_zero, List.take_succ_cons, List.take_zero, Nat.reduceSub, Nat.sub_zero]
        iterate 4 (refine SeqO.val (v := ?_) (by rfl) (by rfl) (fun w1 hS => ?_) ?_; rotate_left; (· obtain ⟨hc, hcf⟩ := bcell hS; go_simp; try with_reducible rfl); simp only [Act.put, List.setIfInBounds_toArray, List.set_cons_zero, List.set_cons_succ])
        refine SeqO.at (l := [.int .i64 p.a, .int .i64 p.b]) (by rfl) (by rfl) hbz at1.out Try.underlying39 (by rfl) (by kernel_rfl) (by rfl) (by rfl) ?_
        simp only [Act.put, List.setIfInBounds_toArray, List.set_cons_zero, List.set_cons_succ]
        iterate 3 (refine SeqO.val (v := ?_) (by rfl) (by rfl) (fun w1 hS => ?_) ?_; rotate_left; (· obtain ⟨hc, hcf⟩ := bcell hS; go_simp; try with_reducible rfl); simp only [Act.put, List.setIfInBounds_toArray, List.set_cons_zero, List.set_cons_succ])
        refine SeqO.at (l := [.int .i64 q.a, .int .i64 q.b]) (by rfl) (by rfl) hbz at2.out Try.underlying39 (by rfl) (by kernel_rfl) (by rfl) (by rfl) ?_
        simp only [Act.put, List.setIfInBounds_toArray, List.set_cons_zero, List.set_cons_succ]
        refine SeqO.callv (by rfl) (by rfl) (by rfl) cf24 (by simp [Act.eval]) (fun w1 hS => O.out w1) ?_
        simp only [Act.put, List.setIfInBounds_toArray, List.set_cons_zero, List.set_cons_succ]
        iterate 1 (refine SeqO.val (v := ?_) (by rfl) (by rfl) (fun w1 hS => ?_) ?_; rotate_left; (· obtain ⟨hc, hcf⟩ := bcell hS; go_simp; try with_reducible rfl); simp only [Act.put, List.setIfInBounds_toArray, List.set_cons_zero, List.set_cons_succ])
        refine SeqO.nil0 fun w3 hS3 => ?_
        refine Ph.last ?_
        simp only [List.drop_succ_cons, List.drop_zero, List.take_succ_cons, List.take_zero, Nat.reduceSub, Nat.sub_zero]
        have hW := hW.trans (hS3.mono hW.size)
        refine wpList_nil ?_
        by_cases c : ltP p q
        · have hg := Lib.hid (GO.out c)
          clear O GO NO at1 at2
          have c' : decide (0 ≤ ordI p q) = false := decide_eq_false (by have := (ordI_lt p q).2 c; omega)
          rw [c']
          clear c'
          generalize ordI p q = x at *
          go_wp2
          exact ⟨⟨j + 1, .inl (by omega), by simp, hg.out, hW⟩, by simp [intOf]; omega⟩
        · have hn := NO.out c
          have hr := HR.out
          rw [if_neg hn] at hr
          clear O GO NO at1 at2 HR hn
          have c' : decide (0 ≤ ordI p q) = true := decide_eq_true (by have hx : ¬ ordI p q < 0 := (fun h => c ((ordI_lt p q).1 h)); omega)
          rw [c']
          clear c'
          generalize ordI p q = x at *
          subst hr
          go_wp2
          go_ret
          exact ⟨rfl, hW⟩
      · have t1 : decide ((j : Int) + 1 < (n : Int)) = false := decide_eq_false (by omega)
        have hr := HR.out
        rw [List.take_of_length_le (by omega)] at hrs
        rw [if_pos hrs] at hr
        clear HR hrs
        subst hr
        go_wp2
        go_ret
        exact ⟨rfl, hW⟩
  · have e0 : (fineS l != 0) = true := by simpa using hf
    rw [show checkS l = fineS l from if_neg hf]
    generalize fineS l = c at *
    unfold RetB
    go_enter Try.func12, Try.ntmps12
    go_wp2_with fail
    refine HF.out.mono ?_
    rintro e w0 ⟨rfl, hW⟩
    go_wp2
    go_ret
    exact ⟨rfl, hW⟩
set_option maxRecDepth 100000 in
set_option maxHeartbeats 2000000 in
theorem rcheckC {A : Option Addr} {n : Nat} (cap : Nat) {l : List Pr} (w : World) (h : SlS w A n l) : RetB Try.prog 13 #[.slice A n cap] w (.int .i64 (checkS l)) := by
  have hln := h.1
  have H := Lib.hid h
  have HF := Lib.hid (rfineC cap w h)
  clear h
  by_cases hf : fineS l = 0
  · obtain ⟨hi, hok⟩ := fineS_ok hf
    obtain ⟨r, hr⟩ : ∃ r, checkS l = r := ⟨_, rfl⟩
    have HR := Lib.hid (show (if risen l then 0 else 2) = r from by rw [← hr]; unfold checkS; rw [if_pos hf])
    have HOK := Lib.hid hok
    have hn6 : n ≤ 65536 := by omega
    rw [hr]
    clear hr hok
    have HF2 := Lib.hid (HF.out.eq (v' := .int .i64 0) (by rw [hf]))
    clear HF hf
    unfold RetB
    go_enter Try.func13, Try.ntmps13
    go_wp2_with fail
    refine HF2.out.mono ?_
    rintro e w0 ⟨rfl, hW⟩
    go_wp2_with fail
    go_loopw [4] (fun i wr => ∃ j : Nat, (j + 1 ≤ n ∨ j = 0) ∧ i = .int .i64 ((j : Int) + 1) ∧ risen (l.take (j + 1)) ∧ Below w.heap.size w wr) (fun i _ => n - (intOf i).toNat)
    case atStart => exact ⟨0, .inr rfl, rfl, by cases l with
      | nil => exact List.Pairwise.nil
      | cons x r => exact List.pairwise_singleton _ _, hW⟩
    case round =>
      clear hW
      obtain ⟨j, hj, rfl, hrs, hW⟩ := hrel
      by_cases hlt : j + 1 < n
      · obtain ⟨p, hp⟩ : ∃ p, l[j]? = some p := ⟨_, List.getElem?_eq_getElem (by omega)⟩
        obtain ⟨q, hq⟩ : ∃ q, l[j + 1]? = some q := ⟨_, List.getElem?_eq_getElem (by omega)⟩
        obtain ⟨b, off, rfl, hb, hs⟩ := H.out.2 (by omega)
        have at1 := Lib.hid (hs.step hb hW j p hp)
        have at2 := Lib.hid (hs.step hb hW (j + 1) q hq)
        have okp := HOK.out p (List.mem_of_getElem? hp); have okq := HOK.out q (List.mem_of_getElem? hq)
        have O := Lib.hid (fun w => aheadC p q w)
        have t1 : decide ((j : Int) + 1 < (n : Int)) = true := decide_eq_true (by omega)
        have hj1 : 0 ≤ (j : Int) + 1 ∧ (j : Int) + 1 < n := by omega
        have hj0 : 0 ≤ (j : Int) ∧ (j : Int) < n := by omega
        have wj2 : IntKind.i64.wrap ((j : Int) + 1 + 1) = (j : Int) + 1 + 1 := by rw [IntKind.wrap_i64]; omega
        have wj3 : wrap64 ((j : Int) + 1 + 1) = (j : Int) + 1 + 1 := by unfold wrap64; omega
        have wj : IntKind.i64.wrap (j : Int) = j := by rw [IntKind.wrap_i64]; omega
        have hbz : b < wr.heap.size := by have := hW.size; omega
        have GO := Lib.hid (fun c : ltP p q => risen_snoc (k := j + 1) hp hq (by omega) hrs c)
        have NO := Lib.hid (fun c : ¬ ltP p q => risen_bad (k := j + 1) hp hq (by omega) c)
        clear hp hq hs hrs okp okq
        iterate 4 go_step
        iterate 4 (with_reducible refine wpL_val (v := ?_) ?_ ?_ ?_; rotate_left; (· kernel_rfl); (· go_simp; try with_reducible rfl); conv => arg 5; simp only [Act.put, List.setIfInBounds_toArray, List.set_cons_zero, List.set_cons_succ])
        refine wpList_nil ?_
        iterate 9 go_step
        refine wp_region_ph [(11, .free [])] (by kernel_rfl) (by kernel_rfl) ?_
        refine Ph.belowd ?_
        simp only [List.drop_succ_cons, List.drop_zero, List.take_succ_cons, List.take_zero, Nat.reduceSub, Nat.sub_zero]
        iterate 4 (refine SeqO.val (v := ?_) (by rfl) (by rfl) (fun w1 hS => ?_) ?_; rotate_left; (· obtain ⟨hc, hcf⟩ := bcell hS; go_simp; try with_reducible rfl); simp only [Act.put, List.setIfInBounds_toArray, List.set_cons_zero, List.set_cons_succ])
        refine SeqO.at (l := [.int .i64 p.a, .int .i64 p.b]) (by rfl) (by rfl) hbz at1.out Try.underlying39 (by rfl) (by kernel_rfl) (by rfl) (by rfl) ?_
        simp only [Act.put, List.setIfInBounds_toArray, List.set_cons_zero, List.set_cons_succ]
        iterate 3 (refine SeqO.val (v := ?_) (by rfl) (by rfl) (fun w1 hS => ?_) ?_; rotate_left; (· obtain ⟨hc, hcf⟩ := bcell hS; go_simp; try with_reducible rfl); simp only [Act.put, List.setIfInBounds_toArray, List.set_cons_zero, List.set_cons_succ])
        refine SeqO.at (l := [.int .i64 q.a, .int .i64 q.b]) (by rfl) (by rfl) hbz at2.out Try.underlying39 (by rfl) (by kernel_rfl) (by rfl) (by rfl) ?_
        simp only [Act.put, List.setIfInBounds_toArray, List.set_cons_zero, List.set_cons_succ]
        refine SeqO.callv (by rfl) (by rfl) (by rfl) cf28 (by simp [Act.eval]) (fun w1 hS => O.out w1) ?_
        simp only [Act.put, List.setIfInBounds_toArray, List.set_cons_zero, List.set_cons_succ]
        iterate 1 (refine SeqO.val (v := ?_) (by rfl) (by rfl) (fun w1 hS => ?_) ?_; rotate_left; (· obtain ⟨hc, hcf⟩ := bcell hS; go_simp; try with_reducible rfl); simp only [Act.put, List.setIfInBounds_toArray, List.set_cons_zero, List.set_cons_succ])
        refine SeqO.nil0 fun w3 hS3 => ?_
        refine Ph.last ?_
        simp only [List.drop_succ_cons, List.drop_zero, List.take_succ_cons, List.take_zero, Nat.reduceSub, Nat.sub_zero]
        have hW := hW.trans (hS3.mono hW.size)
        refine wpList_nil ?_
        by_cases c : ltP p q
        · have hg := Lib.hid (GO.out c)
          clear O GO NO at1 at2
          rw [decide_eq_true c]
          go_wp2
          exact ⟨⟨j + 1, .inl (by omega), by simp, hg.out, hW⟩, by simp [intOf]; omega⟩
        · have hn := NO.out c
          have hr := HR.out
          rw [if_neg hn] at hr
          clear O GO NO at1 at2 HR hn
          rw [decide_eq_false c]
          subst hr
          go_wp2
          go_ret
          exact ⟨rfl, hW⟩
      · have t1 : decide ((j : Int) + 1 < (n : Int)) = false := decide_eq_false (by omega)
        have hr := HR.out
        rw [List.take_of_length_le (by omega)] at hrs
        rw [if_pos hrs] at hr
        clear HR hrs
        subst hr
        go_wp2
        go_ret
        exact ⟨rfl, hW⟩
  · have e0 : (fineS l != 0) = true := by simpa using hf
    rw [show checkS l = fineS l from if_neg hf]
    generalize fineS l = c at *
    unfold RetB
    go_enter Try.func13, Try.ntmps13
    go_wp2_with fail
    refine HF.out.mono ?_
    rintro e w0 ⟨rfl, hW⟩
    go_wp2
    go_ret
    exact ⟨rfl, hW⟩
theorem take_eq {α : Type} {l m : List α} {k : Nat} {x y : α} (h : l.take k = m.take k) (hx : l[k]? = some x) (hy : m[k]? = some y) : l.take (k + 1) = m.take (k + 1) ↔ x = y := by
  rw [take_snoc hx, take_snoc hy, h]
  constructor
  · intro e; have := List.append_cancel_left e; simpa using this
  · intro e; rw [e]
set_option maxRecDepth 100000 in
set_option maxHeartbeats 2000000 in
theorem sameN {A B : Option Addr} {n m c d : Nat} (h : n ≠ m) (w : World) : RetB Try.prog 11 #[.slice A n c, .slice B m d] w (.bool false) := by
  have e0 : ((n : Int) != (m : Int)) = true := by simp; omega
  unfold RetB
  go_enter Try.func11, Try.ntmps11
  go_wp2
  go_ret
  exact ⟨rfl, Below.refl _ _⟩
set_option maxRecDepth 100000 in
set_option maxHeartbeats 2000000 in
theorem sameE {A B : Option Addr} {n c d : Nat} {l m : List Pr} {r : Bool} (w : World) (hl : SlS w A n l) (hm : SlS w B n m) (hi : n ≤ 1000000) (hr : r = decide (l = m)) : RetB Try.prog 11 #[.slice A n c, .slice B n d] w (.bool r) := by
  have HL := Lib.hid hl; have HM := Lib.hid hm
  have e0 : ((n : Int) != (n : Int)) = false := by simp
  have HR := Lib.hid hr
  clear hl hm hr
  unfold RetB
  go_enter Try.func11, Try.ntmps11
  go_wp2
  go_loopw [5] (fun i wr => ∃ k : Nat, k ≤ n ∧ i = .int .i64 k ∧ l.take k = m.take k ∧ Below w.heap.size w wr) (fun i _ => n - (intOf i).toNat)
  case atStart => exact ⟨0, Nat.zero_le _, rfl, rfl, Below.refl _ _⟩
  case round =>
    obtain ⟨k, hk, rfl, htk, hW⟩ := hrel
    by_cases hlt : k < n
    · obtain ⟨s, hs⟩ : ∃ s, l[k]? = some s := ⟨_, List.getElem?_eq_getElem (by rw [HL.out.1]; exact hlt)⟩
      obtain ⟨t, ht⟩ : ∃ t, m[k]? = some t := ⟨_, List.getElem?_eq_getElem (by rw [HM.out.1]; exact hlt)⟩
      obtain ⟨b, off, rfl, hb, hsl⟩ := HL.out.2 (by omega)
      obtain ⟨b2, off2, rfl, hb2, hsm⟩ := HM.out.2 (by omega)
      have hsz := hW.size
      have at1 := Lib.hid (hsl.step hb hW k s hs)
      have at2 := Lib.hid (hsm.step hb2 hW k t ht)
      have hst := take_eq htk hs ht
      have HST := Lib.hid hst; have HTK := Lib.hid htk
      have HNO := Lib.hid (fun e : ¬ s = t => show r = false from HR.out.trans <| decide_eq_false fun e' => e (by subst e'; rw [hs] at ht; exact Option.some.inj ht))
      have t1 : decide ((k : Int) < (n : Int)) = true := by simpa using hlt
      clear hs ht hst htk hsl hsm
      iterate 4 go_step
      iterate 4 (with_reducible refine wpL_val (v := ?_) ?_ ?_ ?_; rotate_left; (· kernel_rfl); (· go_simp; try with_reducible rfl); conv => arg 5; simp only [Act.put, List.setIfInBounds_toArray, List.set_cons_zero, List.set_cons_succ])
      refine wpList_nil ?_
      iterate 9 go_step
      refine wp_region_ph [(9, .free [])] (by kernel_rfl) (by kernel_rfl) ?_
      refine Ph.belowd ?_
      simp only [List.drop_succ_cons, List.drop_zero, List.take_succ_cons, List.take_zero, Nat.reduceSub, Nat.sub_zero]
      iterate 3 (refine SeqO.val (v := ?_) (by rfl) (by rfl) (fun w1 hS => ?_) ?_; rotate_left; (· obtain ⟨hc, hcf⟩ := bcell hS; go_simp; try with_reducible rfl); simp only [Act.put, List.setIfInBounds_toArray, List.set_cons_zero, List.set_cons_succ])
      refine SeqO.at (l := [.int .i64 s.a, .int .i64 s.b]) (by rfl) (by rfl) (by omega : b < wr.heap.size) at1.out Try.underlying39 (by rfl) (by kernel_rfl) (by rfl) (by rfl) ?_
      simp only [Act.put, List.setIfInBounds_toArray, List.set_cons_zero, List.set_cons_succ]
      iterate 3 (refine SeqO.val (v := ?_) (by rfl) (by rfl) (fun w1 hS => ?_) ?_; rotate_left; (· obtain ⟨hc, hcf⟩ := bcell hS; go_simp; try with_reducible rfl); simp only [Act.put, List.setIfInBounds_toArray, List.set_cons_zero, List.set_cons_succ])
      refine SeqO.at (l := [.int .i64 t.a, .int .i64 t.b]) (by rfl) (by rfl) (by omega : b2 < wr.heap.size) at2.out Try.underlying39 (by rfl) (by kernel_rfl) (by rfl) (by rfl) ?_
      simp only [Act.put, List.setIfInBounds_toArray, List.set_cons_zero, List.set_cons_succ]
      refine SeqO.val (v := .bool (!decide (s = t))) (by rfl) (by rfl) (fun w1 hS => ?_) ?_
      · skip
        exact run_bin_agg (by rfl) (by rfl) (by rfl) guardPa (prNeq s t w1)
      simp only [Act.put, List.setIfInBounds_toArray, List.set_cons_zero, List.set_cons_succ]
      refine SeqO.nil0 fun w3 hS3 => ?_
      refine Ph.last ?_
      simp only [List.drop_succ_cons, List.drop_zero, List.take_succ_cons, List.take_zero, Nat.reduceSub, Nat.sub_zero]
      have hW := hW.trans (hS3.mono hW.size)
      refine wpList_nil ?_
      by_cases e : s = t
      · rw [decide_eq_true e]
        have hst := HST.out.2 e
        clear HNO HST HTK
        go_wp2
        exact ⟨⟨k + 1, by omega, by simp, hst, hW⟩, by simp [intOf]; omega⟩
      · rw [decide_eq_false e]
        have hr := HNO.out e
        clear HNO HST HTK HR
        subst hr
        go_wp2
        go_ret
        exact ⟨rfl, hW⟩
    · have hkn : k = n := by omega
      subst hkn
      have t1 : decide ((k : Int) < (k : Int)) = false := by simp
      have hE : r = true := HR.out.trans <| decide_eq_true (by
        have e1 := HL.out.1; have e2 := HM.out.1
        rw [List.take_of_length_le (by omega), List.take_of_length_le (by omega)] at htk
        exact htk)
      clear HR
      subst hE
      go_wp2
      go_ret
      exact ⟨rfl, hW⟩
theorem sameC {A B : Option Addr} {n m c d : Nat} {l k : List Pr} (w : World) (hl : SlS w A n l) (hk : SlS w B m k) (hi : n ≤ 1000000) : RetB Try.prog 11 #[.slice A n c, .slice B m d] w (.bool (decide (l = k))) := by
  by_cases e : n = m
  · subst e; exact sameE w hl hk hi rfl
  · rw [decide_eq_false (fun e' => e (by rw [← hl.1, ← hk.1, e']))]
    exact sameN e w
set_option maxRecDepth 100000 in
set_option maxHeartbeats 2000000 in
theorem hasC {A : Option Addr} {n : Nat} (cap : Nat) {l : List Pr} (p : Pr) (w : World) (h : SlS w A n l) (hi : n ≤ 1000000) : RetB Try.prog 27 #[.slice A n cap, .agg #[.int .i64 p.a, .int .i64 p.b]] w (.bool (decide (p ∈ l))) := by
  have hln := h.1
  have H := Lib.hid h
  obtain ⟨r, hr⟩ : ∃ r, decide (p ∈ l) = r := ⟨_, rfl⟩
  have HR := Lib.hid hr
  rw [hr]
  clear h hr
  unfold RetB
  go_enter Try.func27, Try.ntmps27
  go_wp2_with fail
  have hA0 : Box (w.alloc (.cells [.int .i64 p.a, .int .i64 p.b].toArray 39)) w.heap.size [.int .i64 p.a, .int .i64 p.b] 39 := Box.new rfl
  have hB0 := (Below.refl w.heap.size w).alloc (Nat.le_refl _) (.cells [.int .i64 p.a, .int .i64 p.b].toArray 39)
  go_loopw [5] (fun i wr => ∃ k : Nat, k ≤ n ∧ i = .int .i64 k ∧ p ∉ l.take k ∧ Box wr w.heap.size [.int .i64 p.a, .int .i64 p.b] 39 ∧ Below w.heap.size w wr) (fun i _ => n - (intOf i).toNat)
  case atStart => exact ⟨0, Nat.zero_le _, rfl, by simp, hA0, hB0⟩
  case round =>
    clear hA0 hB0
    obtain ⟨k, hk, rfl, hno, hA, hW⟩ := hrel
    by_cases hlt : k < n
    · obtain ⟨q, hq⟩ : ∃ q, l[k]? = some q := ⟨_, List.getElem?_eq_getElem (by omega)⟩
      obtain ⟨b, off, rfl, hb, hs⟩ := H.out.2 (by omega)
      have at1 := Lib.hid (hs.step hb hW k q hq)
      have t1 : decide ((k : Int) < (n : Int)) = true := by simpa using hlt
      have HTK := Lib.hid (take_snoc hq); have HQ := Lib.hid (List.mem_of_getElem? hq); have HNO := Lib.hid hno
      have hbz : b < wr.heap.size := by have := hW.size; omega
      clear hq hs hno
      iterate 4 go_step
      iterate 4 (with_reducible refine wpL_val (v := ?_) ?_ ?_ ?_; rotate_left; (· kernel_rfl); (· go_simp; try with_reducible rfl); conv => arg 5; simp only [Act.put, List.setIfInBounds_toArray, List.set_cons_zero, List.set_cons_succ])
      refine wpList_nil ?_
      iterate 9 go_step
      refine wp_region_ph [(6, .free [])] (by kernel_rfl) (by kernel_rfl) ?_
      refine Ph.belowd ?_
      simp only [List.drop_succ_cons, List.drop_zero, List.take_succ_cons, List.take_zero, Nat.reduceSub, Nat.sub_zero]
      iterate 3 (refine SeqO.val (v := ?_) (by rfl) (by rfl) (fun w1 hS => ?_) ?_; rotate_left; (· obtain ⟨hc, hcf⟩ := bcell hS; go_simp; try with_reducible rfl); simp only [Act.put, List.setIfInBounds_toArray, List.set_cons_zero, List.set_cons_succ])
      refine SeqO.at (l := [.int .i64 q.a, .int .i64 q.b]) (by rfl) (by rfl) hbz at1.out Try.underlying39 (by rfl) (by kernel_rfl) (by rfl) (by rfl) ?_
      simp only [Act.put, List.setIfInBounds_toArray, List.set_cons_zero, List.set_cons_succ]
      refine SeqO.row (l := [.int .i64 p.a, .int .i64 p.b]) (by rfl) (by rfl) hA Try.underlying39 (by rfl) (by kernel_rfl) (by rfl) (by rfl) ?_
      simp only [Act.put, List.setIfInBounds_toArray, List.set_cons_zero, List.set_cons_succ]
      refine SeqO.val (v := .bool (decide (q = p))) (by rfl) (by rfl) (fun w1 hS => ?_) ?_
      · skip
        exact run_bin_agg (by rfl) (by rfl) (by rfl) guardPa (prEql q p w1)
      simp only [Act.put, List.setIfInBounds_toArray, List.set_cons_zero, List.set_cons_succ]
      refine SeqO.nil0 fun w3 hS3 => ?_
      refine Ph.last ?_
      simp only [List.drop_succ_cons, List.drop_zero, List.take_succ_cons, List.take_zero, Nat.reduceSub, Nat.sub_zero]
      have hA := hA.step hS3
      have hW := hW.trans (hS3.mono hW.size)
      refine wpList_nil ?_
      by_cases e : q = p
      · rw [decide_eq_true e]
        have hr := HR.out
        rw [decide_eq_true (e ▸ HQ.out)] at hr
        clear HR HNO HTK HQ at1
        subst hr
        go_wp2
        go_ret
        exact ⟨rfl, hW⟩
      · rw [decide_eq_false e]
        have hno : p ∉ l.take (k + 1) := fun hm => by
          rw [HTK.out] at hm
          rcases List.mem_append.1 hm with hm | hm
          · exact HNO.out hm
          · exact e (List.mem_singleton.1 hm).symm
        have HN2 := Lib.hid hno
        clear HNO HTK HQ at1 hno
        go_wp2
        exact ⟨⟨k + 1, by omega, by simp, HN2.out, hA, hW⟩, by simp [intOf]; omega⟩
    · have t1 : decide ((k : Int) < (n : Int)) = false := by simpa using hlt
      rw [List.take_of_length_le (by omega)] at hno
      have hr := HR.out
      rw [decide_eq_false hno] at hr
      clear HR hno
      subst hr
      go_wp2
      go_ret
      exact ⟨rfl, hW⟩
end QCl
end Go.Proofs.Ytocelepohkbooaa
