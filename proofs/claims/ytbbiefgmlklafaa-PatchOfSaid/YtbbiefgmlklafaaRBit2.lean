/- The document's bits: the walks, second part. No condition. -/
import Derived.Test.YtbbiefgmlklafaaRBit
namespace Go.Proofs.Ytbbiefgmlklafaa
set_option linter.unusedVariables false
set_option linter.unusedSimpArgs false
open Go.RowKit Go.NP
/-- Eight words by their places. -/
def lv (f : Nat → Int) : List Value := (List.range 8).map fun j => .int .u64 (f j)
theorem lv_get (f : Nat → Int) {j : Nat} (hj : j < 8) : (lv f)[j]? = some (.int .u64 (f j)) := by
  unfold lv; rw [List.getElem?_map, List.getElem?_range hj]; rfl
theorem lv_set (f g : Nat → Int) {j : Nat} (hj : j < 8) (h : ∀ i, i ≠ j → g i = f i) : (lv f).set j (.int .u64 (g j)) = lv g := by
  apply List.ext_getElem?
  intro i
  rw [List.getElem?_set]
  by_cases hi : i < 8
  · by_cases e : j = i
    · subst e; rw [if_pos rfl, if_pos (by simp [lv]; exact hj), lv_get g hj]
    · rw [if_neg e, lv_get f hi, lv_get g hi, h i (fun h => e h.symm)]
  · rw [if_neg (by omega), List.getElem?_eq_none (by simp [lv]; omega), List.getElem?_eq_none (by simp [lv]; omega)]
theorem lv_congr {f g : Nat → Int} (h : ∀ j, j < 8 → f j = g j) : lv f = lv g := by
  unfold lv; apply List.map_congr_left; intro j hj; rw [h j (List.mem_range.1 hj)]
theorem lv_w8 (x : Int) : lv (limb x) = [.int .u64 (w8 x).a, .int .u64 (w8 x).b, .int .u64 (w8 x).c, .int .u64 (w8 x).d, .int .u64 (w8 x).e, .int .u64 (w8 x).f, .int .u64 (w8 x).g, .int .u64 (w8 x).h] := rfl
theorem wru {n : Int} (h0 : 0 ≤ n) (h1 : n < 18446744073709551616) : IntKind.u64.wrap n = n := by rw [IntKind.wrap_u64]; omega
set_option maxRecDepth 100000 in
set_option maxHeartbeats 4000000 in
theorem ofB {x : Int} (hx : fits x) (n g : Nat) (h512 : 512 ≤ n) (hn : n ≤ 100000) (w : World) (h1 : Box w g (iv (bitsL x n)) 3) :
    RetB Try.prog 93 #[.slice (some ⟨g, 0, none⟩) n n] w (.tuple #[.agg #[.int .u64 (w8 x).a, .int .u64 (w8 x).b, .int .u64 (w8 x).c, .int .u64 (w8 x).d, .int .u64 (w8 x).e, .int .u64 (w8 x).f, .int .u64 (w8 x).g, .int .u64 (w8 x).h], .bool true]) := by
  unfold RetB
  have l1 := h1.lt
  have H1 := Lib.hid h1
  have HX := Lib.hid hx
  clear h1 hx
  go_enter Try.func93, Try.ntmps93
  go_wp2
  go_loopw [5] (fun i wr => ∃ k : Nat, 511 ≤ k ∧ k ≤ n ∧ i = .int .i64 k ∧ Box wr w.heap.size [.int .u64 0, .int .u64 0, .int .u64 0, .int .u64 0, .int .u64 0, .int .u64 0, .int .u64 0, .int .u64 0] 37 ∧ Box wr (w.heap.size + 1) [.int .u64 0, .int .u64 0, .int .u64 0, .int .u64 0, .int .u64 0, .int .u64 0, .int .u64 0, .int .u64 0] 37 ∧ Below w.heap.size w wr) (fun i _ => n - (intOf i).toNat)
  case atStart =>
    exact ⟨511, by omega, by omega, rfl, (Box.new rfl).alloc _, Box.new (by simp), ((Below.refl _ _).alloc (Nat.le_refl _) _).alloc (by simp) _⟩
  case round =>
    rename_i wr
    obtain ⟨k, hk0, hk, rfl, hR, hA, hW⟩ := hrel
    have hL := H1.out.below hW l1
    have j1 := hL.lt; have j2 := hR.lt; have j3 := hA.lt
    have f1 := hL.free
    have e2 := hL.cell 511
    rw [iv_get (bitsL_get x (by omega)), fits_bit HX.out (by omega)] at e2
    by_cases hlt : k < n
    · have e1 := hL.cell k
      rw [iv_get (bitsL_get x hlt), fits_bit HX.out (by omega)] at e1
      generalize sbit x = s at *
      have i5 : (511 : Int) < (n : Int) := by omega
      go_wp2
      refine wp_region_ph [(8, .free [])] (by kernel_rfl) (by kernel_rfl) ?_
      refine Ph.belowd ?_
      simp only [List.drop_succ_cons, List.drop_zero, List.take_succ_cons, List.take_zero, Nat.reduceSub, Nat.sub_zero]
      iterate 8 (refine SeqO.val (v := ?_) (by rfl) (by rfl) (fun w1 hS => ?_) ?_; rotate_left; (· obtain ⟨hc, hcf⟩ := bcell hS; go_simp; try with_reducible rfl); simp only [Act.put, List.setIfInBounds_toArray, List.set_cons_zero, List.set_cons_succ])
      refine SeqO.nil0 fun w5 hS => ?_
      refine Ph.last ?_
      simp only [List.drop_succ_cons, List.drop_zero, List.take_succ_cons, List.take_zero, Nat.reduceSub, Nat.sub_zero]
      have hR5 := hR.step hS; have hA5 := hA.step hS
      have hW5 := hW.trans (hS.mono hW.size)
      go_wp2
      go_roundw
      case rel => exact ⟨k + 1, by omega, by omega, by go_num, hR5, hA5, hW5⟩
      case measure => simp [intOf]; omega
    · obtain rfl : k = n := by omega
      clear hL f1 e2
      go_wp2
      go_loopw [6] (fun i wx => ∃ m : Nat, m ≤ 512 ∧ i = .int .i64 ((m : Int) - 1) ∧ Box wx w.heap.size [.int .u64 0, .int .u64 0, .int .u64 0, .int .u64 0, .int .u64 0, .int .u64 0, .int .u64 0, .int .u64 0] 37 ∧ Box wx (w.heap.size + 1) (lv (prt x m)) 37 ∧ Below w.heap.size w wx) (fun i _ => (intOf i + 1).toNat)
      case atStart =>
        refine ⟨512, by omega, rfl, hR, ?_, hW⟩
        rw [lv_congr (f := prt x 512) (g := fun _ => 0) fun j hj => part_top x hj]
        exact hA
      case round =>
        rename_i wx
        obtain ⟨m, hm, rfl, hR2, hA2, hW2⟩ := hrel
        rcases m with _ | i
        · rw [lv_congr (f := prt x 0) (g := limb x) fun j hj => part_zero x j, lv_w8] at hA2
          have q2 := hR2.lt; have q3 := hA2.lt
          have y0 := (hA2).cell 0; have y1 := (hA2).cell 1; have y2 := (hA2).cell 2; have y3 := (hA2).cell 3; have y4 := (hA2).cell 4; have y5 := (hA2).cell 5; have y6 := (hA2).cell 6; have y7 := (hA2).cell 7; have yf := (hA2).free
          simp only [List.getElem?_cons_zero, List.getElem?_cons_succ] at y0 y1 y2 y3 y4 y5 y6 y7
          have z0 := (hR2).cell 0; have z1 := (hR2).cell 1; have z2 := (hR2).cell 2; have z3 := (hR2).cell 3; have z4 := (hR2).cell 4; have z5 := (hR2).cell 5; have z6 := (hR2).cell 6; have z7 := (hR2).cell 7; have zf := (hR2).free
          simp only [List.getElem?_cons_zero, List.getElem?_cons_succ] at z0 z1 z2 z3 z4 z5 z6 z7
          have e0 : (((0 : Nat) : Int) - 1) = -1 := by decide
          rw [e0]
          go_wp2
          exact bodyPost_ret (v := .tuple #[.agg #[.int .u64 (w8 x).a, .int .u64 (w8 x).b, .int .u64 (w8 x).c, .int .u64 (w8 x).d, .int .u64 (w8 x).e, .int .u64 (w8 x).f, .int .u64 (w8 x).g, .int .u64 (w8 x).h], .bool true]) (by simp [results, Try.results93, go_sem, *]) rfl ⟨rfl, ((((((((hW2).setCell (by first | omega | (simp; done) | (simp; omega)) _).setCell (by first | omega | (simp; done) | (simp; omega)) _).setCell (by first | omega | (simp; done) | (simp; omega)) _).setCell (by first | omega | (simp; done) | (simp; omega)) _).setCell (by first | omega | (simp; done) | (simp; omega)) _).setCell (by first | omega | (simp; done) | (simp; omega)) _).setCell (by first | omega | (simp; done) | (simp; omega)) _).setCell (by first | omega | (simp; done) | (simp; omega)) _⟩
        · have e0 : (((i + 1 : Nat) : Int) - 1) = (i : Int) := by omega
          rw [e0]
          have hi8 : i / 64 < 8 := by omega
          have hL := H1.out.below hW2 l1
          have q1 := hL.lt; have q2 := hR2.lt; have q3 := hA2.lt
          have f1 := hL.free; have f3 := hA2.free
          have e1 := hL.cell i
          rw [iv_get (bitsL_get x (by omega))] at e1
          have e3 := hA2.cell (i / 64)
          rw [lv_get _ hi8] at e3
          have b1 := bit01 x i
          obtain ⟨b1, b1'⟩ := b1
          have HS := Lib.hid (part_step x i)
          have r1 := part_range x i (i / 64)
          obtain ⟨r1, r1'⟩ := r1
          rw [HS.out] at r1 r1'
          have r2 := (part_range x (i + 1) (i / 64)).1
          have hi : i < 512 := by omega
          generalize hy : prt x (i + 1) (i / 64) = y at *
          generalize bit x i = b at *
          have HY := Lib.hid hy
          clear hy
          have hr1 : IntKind.u64.wrap (y * 2) = y * 2 := wru (by omega) (by omega)
          have hr2 : IntKind.u64.wrap b = b := wru (by omega) (by omega)
          have hr3 : IntKind.u64.wrap (y * 2 + b) = y * 2 + b := wru (by omega) (by omega)
          have hik : i < k := by omega
          have hw1 : IntKind.i64.wrap ((i : Int) / 64) = (i : Int) / 64 := IntWalk.i64_in _ (by omega)
          have hw2 : (0 : Int) ≤ (i : Int) / 64 := by omega
          have hw3 : (i : Int) / 64 < 8 := by omega
          have hw4 : ((i : Int) / 64).toNat = i / 64 := by omega
          go_wp2
          refine wp_region_ph [(16, .free [])] (by kernel_rfl) (by kernel_rfl) ?_
          refine Ph.belowd ?_
          simp only [List.drop_succ_cons, List.drop_zero, List.take_succ_cons, List.take_zero, Nat.reduceSub, Nat.sub_zero]
          iterate 16 (refine SeqO.val (v := ?_) (by rfl) (by rfl) (fun w1 hS => ?_) ?_; rotate_left; (· obtain ⟨hc, hcf⟩ := bcell hS; go_simp; try with_reducible rfl); simp only [Act.put, List.setIfInBounds_toArray, List.set_cons_zero, List.set_cons_succ])
          refine SeqO.nil0 fun w5 hS => ?_
          refine Ph.last ?_
          simp only [List.drop_succ_cons, List.drop_zero, List.take_succ_cons, List.take_zero, Nat.reduceSub, Nat.sub_zero]
          have hR5 := hR2.step hS; have hA5 := hA2.step hS
          have hW5 := hW2.trans (hS.mono hW2.size)
          have e5 := hA5.cell (i / 64)
          rw [lv_get _ hi8] at e5
          have f5 := hA5.free
          go_wp2
          go_roundw
          case rel =>
            refine ⟨i, by omega, rfl, hR5.other (by simp) _, ?_, hW5.setCell (by simp) _⟩
            rw [← lv_set (prt x (i + 1)) (prt x i) hi8 (fun j hj => part_other x hj), HS.out]
            exact hA5.set (i / 64) _
          case measure => simp [intOf]
set_option maxHeartbeats 400000 in
theorem belowB {x : Int} (hx : fits x) (w : World) : RetB Try.prog 97 #[.agg #[.int .u64 (w8 x).a, .int .u64 (w8 x).b, .int .u64 (w8 x).c, .int .u64 (w8 x).d, .int .u64 (w8 x).e, .int .u64 (w8 x).f, .int .u64 (w8 x).g, .int .u64 (w8 x).h]] w (.bool (decide (x < 0))) := by
  have h1 := fits_top hx
  have h2 := limb_range x 7
  have e : decide (9223372036854775808 ≤ limb x 7) = decide (x < 0) := by
    apply decide_eq_decide.2
    by_cases h : x < 0
    · rw [sbit_neg h] at h1; omega
    · rw [sbit_pos h] at h1; omega
  have HE := Lib.hid e
  clear h1 h2 hx e
  unfold RetB
  go_enter Try.func97, Try.ntmps97
  go_wp2
  go_ret
  exact ⟨by rw [← HE.out]; rfl, (Below.refl _ _).alloc (Nat.le_refl _) _⟩
theorem w8_small {x : Int} (h : i63 x) : w8 x = of8 x := by
  obtain ⟨h0, h1⟩ := h
  have hs : ∀ j, 0 < j → limb x j = sg x := fun j hj => by
    rw [limb_small h0 h1 hj]; unfold sg; rw [IntKind.wrap_u64]
  have hl : limb x 0 = lo x := by
    unfold limb lo
    rw [IntKind.wrap_u64, Nat.mul_zero, Int.pow_zero, Int.ediv_one]
    rfl
  unfold w8 of8
  rw [hl, hs 1 (by omega), hs 2 (by omega), hs 3 (by omega), hs 4 (by omega), hs 5 (by omega), hs 6 (by omega), hs 7 (by omega)]
set_option maxRecDepth 100000 in
set_option maxHeartbeats 2000000 in
theorem smallB {x : Int} (hx : i63 x) (w : World) : RetB Try.prog 87 #[.int .i64 x] w (.agg #[.int .u64 (w8 x).a, .int .u64 (w8 x).b, .int .u64 (w8 x).c, .int .u64 (w8 x).d, .int .u64 (w8 x).e, .int .u64 (w8 x).f, .int .u64 (w8 x).g, .int .u64 (w8 x).h]) := by
  rw [w8_small hx]
  unfold RetB
  by_cases h : x < 0
  · have hd : decide (x < 0) = true := decide_eq_true h
    have hs := Lib.hid (show sg x = 18446744073709551615 by
      obtain ⟨h0, h1⟩ := hx
      unfold sg; rw [IntKind.wrap_u64, show x / 9223372036854775808 = -1 by omega]; rfl)
    clear h hx
    go_enter Try.func87, Try.ntmps87
    go_wp2
    refine wp_loop_rounds 9 ?_
    iterate 9 (rw [rounds_succ]; go_wp2)
    refine bodyPost_ret (v := .agg #[.int .u64 (of8 x).a, .int .u64 (of8 x).b, .int .u64 (of8 x).c, .int .u64 (of8 x).d, .int .u64 (of8 x).e, .int .u64 (of8 x).f, .int .u64 (of8 x).g, .int .u64 (of8 x).h]) (by simp [results, Try.results87, go_sem]; exact ⟨rfl, hs.out.symm, hs.out.symm, hs.out.symm, hs.out.symm, hs.out.symm, hs.out.symm, hs.out.symm⟩) rfl ⟨rfl, ?_⟩
    exact ((Below.refl _ _).alloc (Nat.le_refl _) _).alloc (by simp) _
  · have hd : decide (x < 0) = false := decide_eq_false h
    have hs := Lib.hid (show sg x = 0 by
      obtain ⟨h0, h1⟩ := hx
      unfold sg; rw [IntKind.wrap_u64, show x / 9223372036854775808 = 0 by omega]; rfl)
    clear h hx
    go_enter Try.func87, Try.ntmps87
    go_wp2
    refine wp_loop_rounds 9 ?_
    iterate 9 (rw [rounds_succ]; go_wp2)
    refine bodyPost_ret (v := .agg #[.int .u64 (of8 x).a, .int .u64 (of8 x).b, .int .u64 (of8 x).c, .int .u64 (of8 x).d, .int .u64 (of8 x).e, .int .u64 (of8 x).f, .int .u64 (of8 x).g, .int .u64 (of8 x).h]) (by simp [results, Try.results87, go_sem]; exact ⟨rfl, hs.out.symm, hs.out.symm, hs.out.symm, hs.out.symm, hs.out.symm, hs.out.symm, hs.out.symm⟩) rfl ⟨rfl, ?_⟩
    exact ((Below.refl _ _).alloc (Nat.le_refl _) _).alloc (by simp) _
theorem cf69 (args : Array Value) (w1 : World) : (callFunc 69 args).run Try.prog w1 = .ok (.enter 69 args) w1 := enters Try.func69 (by kernel_rfl) (by kernel_rfl) args w1
theorem cf93 (args : Array Value) (w1 : World) : (callFunc 93 args).run Try.prog w1 = .ok (.enter 93 args) w1 := enters Try.func93 (by kernel_rfl) (by kernel_rfl) args w1
theorem fits_add {x y : Int} (hx : ∃ k : Nat, k ≤ 510 ∧ -2 ^ k ≤ x ∧ x < 2 ^ k) (hy : ∃ k : Nat, k ≤ 510 ∧ -2 ^ k ≤ y ∧ y < 2 ^ k) : fits (x + y) := by
  obtain ⟨i, hi, h0, h1⟩ := hx
  obtain ⟨j, hj, h2, h3⟩ := hy
  have m1 := p2_mono (i := i) (j := 510) (by omega)
  have m2 := p2_mono (i := j) (j := 510) (by omega)
  have e : (2 : Int) ^ 511 = 2 ^ 510 * 2 := Int.pow_succ ..
  refine ⟨511, by omega, ?_, ?_⟩
  · rw [e]; generalize (2 : Int) ^ 510 = P at *; omega
  · rw [e]; generalize (2 : Int) ^ 510 = P at *; omega
theorem RetR.more {f : FuncId} {args : Array Value} {w : World} {n B : Nat} {l : List Int} (h : RetR f args w n l) (hB : B ≤ w.heap.size) : RetK Try.prog f args w (newR B n (iv l) 3) :=
  Calls.mono h fun e w' ⟨x, he, ⟨g, h1, h2, h3⟩, hS⟩ => ⟨x, he, ⟨g, h1, by omega, h3⟩, hS⟩
set_option maxRecDepth 100000 in
set_option maxHeartbeats 2000000 in
theorem addB {x y : Int} (hx : fits x) (hy : fits y) (hxy : fits (x + y)) (w : World) : RetB Try.prog 85 #[.agg #[.int .u64 (w8 x).a, .int .u64 (w8 x).b, .int .u64 (w8 x).c, .int .u64 (w8 x).d, .int .u64 (w8 x).e, .int .u64 (w8 x).f, .int .u64 (w8 x).g, .int .u64 (w8 x).h], .agg #[.int .u64 (w8 y).a, .int .u64 (w8 y).b, .int .u64 (w8 y).c, .int .u64 (w8 y).d, .int .u64 (w8 y).e, .int .u64 (w8 y).f, .int .u64 (w8 y).g, .int .u64 (w8 y).h]] w (.tuple #[.agg #[.int .u64 (w8 (x + y)).a, .int .u64 (w8 (x + y)).b, .int .u64 (w8 (x + y)).c, .int .u64 (w8 (x + y)).d, .int .u64 (w8 (x + y)).e, .int .u64 (w8 (x + y)).f, .int .u64 (w8 (x + y)).g, .int .u64 (w8 (x + y)).h], .bool true]) := by
  have HX := Lib.hid hx; have HY := Lib.hid hy; have HXY := Lib.hid hxy
  clear hx hy hxy
  unfold RetB
  go_enter Try.func85, Try.ntmps85
  go_wp2
  refine wp_region_ph [(3, .free [1]), (6, .seq), (8, .free [])] (by kernel_rfl) (by kernel_rfl) ?_
  refine Ph.gend [(1, newR (w.heap.size + 1 + 1 + 1) 520 (iv (bitsL x 520)) 3)] (by rfl) ?_
  simp only [List.drop_succ_cons, List.drop_zero, List.take_succ_cons, List.take_zero, Nat.reduceSub, Nat.sub_zero]
  iterate 1 (refine SeqO.valG (v := ?_) (by rfl) (by rfl) (fun w1 hS => ?_) ?_; rotate_left; (· obtain ⟨hc, hcf⟩ := bcell hS; go_simp; try with_reducible rfl); simp only [Act.put, List.setIfInBounds_toArray, List.set_cons_zero, List.set_cons_succ])
  refine SeqO.callG (newR (w.heap.size + 1 + 1 + 1) 520 (iv (bitsL x 520)) 3) (by rfl) (by simp) (by rfl) (by rfl) cf69 (by simp [Act.eval]) (fun w1 hS => (longB HX.out w1).more (by have := hS.size; simp at this; omega)) ?_
  iterate 1 (refine SeqO.valG (v := ?_) (by rfl) (by rfl) (fun w1 hS => ?_) ?_; rotate_left; (· obtain ⟨hc, hcf⟩ := bcell hS; go_simp; try with_reducible rfl); simp only [Act.put, List.setIfInBounds_toArray, List.set_cons_zero, List.set_cons_succ])
  refine SeqO.nilG (by rfl) fun u w1 hS hK => ?_
  obtain ⟨g1, hg1, hge1, hB1⟩ := hK _ (List.mem_cons_self ..)
  clear hK
  simp only [List.nil_append, List.cons_append, List.foldl_cons, List.foldl_nil, hg1]
  clear hg1
  have hge1 : w.heap.size + 1 + 1 + 1 ≤ g1 := hge1
  have hB1 : Box w1 g1 (iv (bitsL x 520)) 3 := hB1
  have hA : Box w1 (w.heap.size + 1) [.int .u64 (w8 y).a, .int .u64 (w8 y).b, .int .u64 (w8 y).c, .int .u64 (w8 y).d, .int .u64 (w8 y).e, .int .u64 (w8 y).f, .int .u64 (w8 y).g, .int .u64 (w8 y).h] 37 := ((Box.new (by simp)).alloc _).step hS
  have hR : Box w1 (w.heap.size + 1 + 1) [.int .u64 0, .int .u64 0, .int .u64 0, .int .u64 0, .int .u64 0, .int .u64 0, .int .u64 0, .int .u64 0] 37 := (Box.new (by simp)).step hS
  have hW : Below w.heap.size w w1 := ((((Below.refl _ _).alloc (Nat.le_refl _) _).alloc (by simp) _).alloc (by simp; omega) _).trans (hS.mono (by simp; omega))
  clear hS
  refine Ph.list ?_
  simp only [List.drop_succ_cons, List.drop_zero, List.take_succ_cons, List.take_zero, Nat.reduceSub, Nat.sub_zero]
  go_wp2_with fail
  refine Calls.mono (longB HY.out _) ?_
  rintro e w2 ⟨_, rfl, ⟨g2, rfl, hge2, hB2⟩, hS⟩
  have hB1 := hB1.step hS
  have hR := hR.step hS
  have hW := hW.trans (hS.mono hW.size)
  clear hS hA hge2
  go_wp2_with fail
  refine Calls.mono (plusB x y 520 g1 g2 (by omega) _ hB1 hB2) ?_
  rintro e w3 ⟨_, rfl, ⟨g3, rfl, hge3, hB3⟩, hS⟩
  have hR := hR.step hS
  have hW := hW.trans (hS.mono hW.size)
  clear hS hB1 hB2 hge3
  go_wp2_with fail
  refine Calls.mono (ofB HXY.out 520 g3 (by omega) (by omega) _ hB3) ?_
  rintro e w4 ⟨rfl, hS⟩
  have hR := hR.step hS
  have hW := hW.trans (hS.mono hW.size)
  clear hS hB3
  go_wp2_with fail
  refine Ph.below ?_
  simp only [List.drop_succ_cons, List.drop_zero, List.take_succ_cons, List.take_zero, Nat.reduceSub, Nat.sub_zero]
  iterate 2 (refine SeqO.val (v := ?_) (by rfl) (by rfl) (fun w1 hS => ?_) ?_; rotate_left; (· obtain ⟨hc, hcf⟩ := bcell hS; go_simp; try with_reducible rfl); simp only [Act.put, List.setIfInBounds_toArray, List.set_cons_zero, List.set_cons_succ])
  refine SeqO.nil0 fun w5 hS => ?_
  have hR := hR.step hS
  have hW := hW.trans (hS.mono hW.size)
  clear hS
  refine Ph.last ?_
  simp only [List.drop_succ_cons, List.drop_zero, List.take_succ_cons, List.take_zero, Nat.reduceSub, Nat.sub_zero]
  have q0 := (hR).cell 0; have q1 := (hR).cell 1; have q2 := (hR).cell 2; have q3 := (hR).cell 3; have q4 := (hR).cell 4; have q5 := (hR).cell 5; have q6 := (hR).cell 6; have q7 := (hR).cell 7; have qf := (hR).free
  simp only [List.getElem?_cons_zero, List.getElem?_cons_succ] at q0 q1 q2 q3 q4 q5 q6 q7
  have l0 := hR.lt
  go_wp2
  exact bodyPost_ret (v := .tuple #[.agg #[.int .u64 (w8 (x + y)).a, .int .u64 (w8 (x + y)).b, .int .u64 (w8 (x + y)).c, .int .u64 (w8 (x + y)).d, .int .u64 (w8 (x + y)).e, .int .u64 (w8 (x + y)).f, .int .u64 (w8 (x + y)).g, .int .u64 (w8 (x + y)).h], .bool true]) (by simp [results, Try.results85, go_sem, *]) rfl ⟨rfl, ((((((((hW).setCell (by first | omega | (simp; done) | (simp; omega)) _).setCell (by first | omega | (simp; done) | (simp; omega)) _).setCell (by first | omega | (simp; done) | (simp; omega)) _).setCell (by first | omega | (simp; done) | (simp; omega)) _).setCell (by first | omega | (simp; done) | (simp; omega)) _).setCell (by first | omega | (simp; done) | (simp; omega)) _).setCell (by first | omega | (simp; done) | (simp; omega)) _).setCell (by first | omega | (simp; done) | (simp; omega)) _⟩
end Go.Proofs.Ytbbiefgmlklafaa
