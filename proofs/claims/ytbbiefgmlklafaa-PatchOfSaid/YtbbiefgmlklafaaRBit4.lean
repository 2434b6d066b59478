/- The document's bits: the walks, fourth part: products. No condition. -/
import Derived.Test.YtbbiefgmlklafaaRBit3
namespace Go.Proofs.Ytbbiefgmlklafaa
set_option linter.unusedVariables false
set_option linter.unusedSimpArgs false
open Go.RowKit Go.NP
theorem cf97 (args : Array Value) (w1 : World) : (callFunc 97 args).run Try.prog w1 = .ok (.enter 97 args) w1 := enters Try.func97 (by kernel_rfl) (by kernel_rfl) args w1
/-- What the outer loop reckons with. -/
structure MulS (X Y : Int) : Prop where
  x0 : 0 ≤ X
  y0 : 0 ≤ Y
  x1 : X < 2 ^ 520
  y1 : Y < 2 ^ 520
  xy : X * Y < 2 ^ 1040
theorem mulS_of {x y : Int} (hx : mid x) (hy : mid y) : MulS (x.natAbs : Int) (y.natAbs : Int) := by
  have h1 := mid_abs hx; have h2 := mid_abs hy; have h3 := mid_mul hx hy
  have p1 : (2 : Int) ^ 250 < 2 ^ 520 := by
    have := p2_mono (i := 251) (j := 520) (by omega)
    have e : (2 : Int) ^ 251 = 2 ^ 250 * 2 := Int.pow_succ ..
    have := p2_pos 250
    omega
  have p2 : (2 : Int) ^ 500 < 2 ^ 1040 := by
    have := p2_mono (i := 501) (j := 1040) (by omega)
    have e : (2 : Int) ^ 501 = 2 ^ 500 * 2 := Int.pow_succ ..
    have := p2_pos 500
    omega
  exact ⟨h1.1, h2.1, by omega, by omega, by omega⟩
theorem mod_nn (y : Int) (i : Nat) : 0 ≤ y % 2 ^ i := Int.emod_nonneg _ (by have := p2_pos i; omega)
theorem MulS.next {X Y : Int} (h : MulS X Y) {i : Nat} (h1 : bit Y i = 1) : X * (Y % 2 ^ i) + X * 2 ^ i = X * (Y % 2 ^ (i + 1)) := by
  rw [mul_mod_step, h1, Int.mul_one]
theorem MulS.same {X Y : Int} (h : MulS X Y) {i : Nat} (h0 : bit Y i = 0) : X * (Y % 2 ^ (i + 1)) = X * (Y % 2 ^ i) := by
  rw [mul_mod_step, h0, Int.mul_zero, Int.zero_mul, Int.add_zero]
theorem MulS.room {X Y : Int} (h : MulS X Y) {i : Nat} (h1 : bit Y i = 1) : X * (Y % 2 ^ i) + X * 2 ^ i < 2 ^ 1040 := by
  rw [h.next h1]
  have := mul_mod_le h.x0 h.y0 (i + 1)
  have := h.xy
  omega
theorem MulS.s0 {X Y : Int} (h : MulS X Y) (i : Nat) : 0 ≤ X * (Y % 2 ^ i) := Int.mul_nonneg h.x0 (mod_nn _ _)
set_option maxRecDepth 100000 in
set_option maxHeartbeats 8000000 in
theorem mulB {x y : Int} (hx : mid x) (hy : mid y) (w : World) : RetB Try.prog 94 #[.agg #[.int .u64 (w8 x).a, .int .u64 (w8 x).b, .int .u64 (w8 x).c, .int .u64 (w8 x).d, .int .u64 (w8 x).e, .int .u64 (w8 x).f, .int .u64 (w8 x).g, .int .u64 (w8 x).h], .agg #[.int .u64 (w8 y).a, .int .u64 (w8 y).b, .int .u64 (w8 y).c, .int .u64 (w8 y).d, .int .u64 (w8 y).e, .int .u64 (w8 y).f, .int .u64 (w8 y).g, .int .u64 (w8 y).h]] w (.tuple #[.agg #[.int .u64 (w8 (x * y)).a, .int .u64 (w8 (x * y)).b, .int .u64 (w8 (x * y)).c, .int .u64 (w8 (x * y)).d, .int .u64 (w8 (x * y)).e, .int .u64 (w8 (x * y)).f, .int .u64 (w8 (x * y)).g, .int .u64 (w8 (x * y)).h], .bool true]) := by
  have HX := Lib.hid hx; have HY := Lib.hid hy
  have HS := Lib.hid (mulS_of hx hy)
  have HXY := Lib.hid (abs_mul x y)
  clear hx hy
  have hmk : ∀ u : World, (Instr.makeSlice 48 (.int .i64 1040) (.int .i64 1040)).run Try.prog u = .ok (.slice (some ⟨u.heap.size, 0, none⟩) 1040 1040) (u.alloc (.cells (iv (List.replicate 1040 0)).toArray 3)) := mk_ints 1040 (by omega)
  generalize hz : (iv (List.replicate 1040 0)) = z at hmk
  have HZ := Lib.hid hz
  clear hz
  unfold RetB
  go_enter Try.func94, Try.ntmps94
  go_wp2
  refine wp_region_ph [(3, .free [1])] (by kernel_rfl) (by kernel_rfl) ?_
  refine Ph.gend [(1, newR (w.heap.size + 1 + 1 + 1) 520 (iv (bitsL (x.natAbs : Int) 520)) 3)] (by rfl) ?_
  simp only [List.drop_succ_cons, List.drop_zero, List.take_succ_cons, List.take_zero, Nat.reduceSub, Nat.sub_zero]
  iterate 1 (refine SeqO.valG (v := ?_) (by rfl) (by rfl) (fun w1 hS => ?_) ?_; rotate_left; (· obtain ⟨hc, hcf⟩ := bcell hS; go_simp; try with_reducible rfl); simp only [Act.put, List.setIfInBounds_toArray, List.set_cons_zero, List.set_cons_succ])
  refine SeqO.callG (newR (w.heap.size + 1 + 1 + 1) 520 (iv (bitsL (x.natAbs : Int) 520)) 3) (by rfl) (by simp) (by rfl) (by rfl) cf95 (by simp [Act.eval]) (fun w1 hS => (sizeB HX.out w1).more (by have := hS.size; simp at this; omega)) ?_
  iterate 1 (refine SeqO.valG (v := ?_) (by rfl) (by rfl) (fun w1 hS => ?_) ?_; rotate_left; (· obtain ⟨hc, hcf⟩ := bcell hS; go_simp; try with_reducible rfl); simp only [Act.put, List.setIfInBounds_toArray, List.set_cons_zero, List.set_cons_succ])
  refine SeqO.nilG (by rfl) fun u w1 hS hK => ?_
  obtain ⟨g6, hg1, hge1, hB1⟩ := hK _ (List.mem_cons_self ..)
  clear hK
  simp only [List.nil_append, List.cons_append, List.foldl_cons, List.foldl_nil, hg1]
  clear hg1
  have hge1 : w.heap.size + 1 + 1 + 1 ≤ g6 := hge1
  have hB6 : Box w1 g6 (iv (bitsL (x.natAbs : Int) 520)) 3 := hB1
  have hA : Box w1 w.heap.size [.int .u64 (w8 x).a, .int .u64 (w8 x).b, .int .u64 (w8 x).c, .int .u64 (w8 x).d, .int .u64 (w8 x).e, .int .u64 (w8 x).f, .int .u64 (w8 x).g, .int .u64 (w8 x).h] 37 := (((Box.new rfl).alloc _).alloc _).step hS
  have hC : Box w1 (w.heap.size + 1) [.int .u64 (w8 y).a, .int .u64 (w8 y).b, .int .u64 (w8 y).c, .int .u64 (w8 y).d, .int .u64 (w8 y).e, .int .u64 (w8 y).f, .int .u64 (w8 y).g, .int .u64 (w8 y).h] 37 := ((Box.new (by simp)).alloc _).step hS
  have hR : Box w1 (w.heap.size + 1 + 1) [.int .u64 0, .int .u64 0, .int .u64 0, .int .u64 0, .int .u64 0, .int .u64 0, .int .u64 0, .int .u64 0] 37 := (Box.new (by simp)).step hS
  have hW : Below w.heap.size w w1 := ((((Below.refl _ _).alloc (Nat.le_refl _) _).alloc (by simp) _).alloc (by simp; omega) _).trans (hS.mono (by simp; omega))
  clear hS hB1
  refine Ph.last ?_
  simp only [List.drop_succ_cons, List.drop_zero, List.take_succ_cons, List.take_zero, Nat.reduceSub, Nat.sub_zero]
  go_wp2_with fail
  refine Calls.mono (sizeB HY.out _) ?_
  rintro e w2 ⟨_, rfl, ⟨g7, rfl, hge2, hB7⟩, hS⟩
  have hB6 := hB6.step hS; have hA := hA.step hS; have hC := hC.step hS; have hR := hR.step hS
  have hW := hW.trans (hS.mono hW.size)
  clear hS hge2
  generalize hX : (x.natAbs : Int) = X at *
  generalize hY : (y.natAbs : Int) = Y at *
  clear hX hY
  go_wp2_with fail
  refine (topBC HS.out.x0 HS.out.x1 g6 _ hB6).mono ?_
  rintro e w3 ⟨⟨m, hm, rfl, hXm⟩, rfl⟩
  have HXM := Lib.hid hXm
  clear hXm
  go_wp2
  have l6 := hB6.lt; have l7 := hB7.lt; have lA := hA.lt; have lC := hC.lt; have lR := hR.lt
  go_loopw [10] (fun i wr => ∃ k : Nat, k ≤ 520 ∧ i = .int .i64 k ∧ Box wr w3.heap.size (iv (bitsL (X * (Y % 2 ^ k)) 1040)) 3 ∧ Below w3.heap.size w3 wr) (fun i _ => 520 - (intOf i).toNat)
  case atStart =>
    refine ⟨0, by omega, rfl, ?_, (Below.refl _ _).alloc (Nat.le_refl _) _⟩
    rw [mod_none, Int.mul_zero, bits_zero, HZ.out]
    exact Box.new rfl
  case round =>
    rename_i wr
    obtain ⟨i, hi, rfl, hG, hV⟩ := hrel
    have j6 := hB6.below hV l6; have j7 := hB7.below hV l7
    have q6 := j6.lt; have q7 := j7.lt; have q9 := hG.lt
    have f7 := j7.free
    by_cases hlt : i < 520
    · have e7 := j7.cell i
      rw [iv_get (bitsL_get _ hlt)] at e7
      have hb := bit01 Y i
      by_cases h0 : bit Y i = 0
      · have HE := Lib.hid (HS.out.same h0)
        rw [h0] at e7
        clear h0 hb
        go_wp2
        go_roundw
        case rel => exact ⟨i + 1, by omega, by go_num, by rw [HE.out]; exact hG, hV⟩
        case measure => simp [intOf]; omega
      · have h1 : bit Y i = 1 := by omega
        have HE := Lib.hid (HS.out.next h1)
        have HR := Lib.hid (HS.out.room h1)
        have HS0 := Lib.hid (HS.out.s0 i)
        rw [h1] at e7
        clear h0 h1 hb
        generalize X * (Y % 2 ^ i) = s at *
        go_wp2
        clear e7 f7 q6 q7 q9
        go_loopw [11, 12] (fun c k wx => ∃ n : Nat, i + n ≤ 1040 ∧ k = .int .i64 n ∧ c = .int .i64 (mcarry s X i n) ∧ Box wx w3.heap.size (iv (mixL s (s + X * 2 ^ i) 1040 (i + n))) 3 ∧ Below w3.heap.size w3 wx) (fun _ k _ => 1040 - (intOf k).toNat)
        case atStart =>
          refine ⟨0, by omega, rfl, by rw [mcarry_zero], ?_, hV⟩
          rw [mixL_start _ _ _ (fun j hj => bit_low s X (by omega))]
          exact hG
        case round =>
          rename_i wx
          obtain ⟨n, hn, rfl, rfl, hM, hU⟩ := hrel
          have j6 := hB6.below hU l6
          have q6 := j6.lt; have q9 := hM.lt
          have f6 := j6.free; have f9 := hM.free
          have b3 := mcarry01 s X i n
          by_cases hgo : n < m ∨ 0 < mcarry s X i n
          · have hp : i + n < 1040 := by
              rcases hgo with h | h
              · omega
              · exact mcarry_room HS0.out HS.out.x0 HR.out h
            obtain ⟨p, hpe⟩ : ∃ p, p = i + n := ⟨_, rfl⟩
            have ep : (i : Int) + (n : Int) = (p : Int) := by omega
            have e9 := hM.cell p
            rw [iv_get (mixL_get _ _ (by omega))] at e9
            have hmx : mixed s (s + X * 2 ^ i) (i + n) p = bit s (i + n) := by unfold mixed; rw [hpe, if_neg (by omega)]
            rw [hmx] at e9
            clear hmx
            have b1 := bit01 s (i + n)
            have HC := Lib.hid (mcarry_succ s X i n)
            have HB := Lib.hid (bit_madd s X i n)
            have HM := Lib.hid hM
            have HP := Lib.hid hpe
            have pl : p < 1040 := by omega
            clear hM hpe hp
            have b2 := bit01 X n
            generalize hsb : bit s (i + n) = sb at *
            generalize hcb : mcarry s X i n = cb at *
            clear hsb hcb
            by_cases hnm : n < m
            · have e6 := j6.cell n
              rw [iv_get (bitsL_get _ (by omega))] at e6
              generalize bit X n = xb at *
              have i1 : n < 520 := by omega
              clear hgo
              go_wp2
              go_roundw
              case rel =>
                refine ⟨n + 1, by have := HP.out; omega, by go_num, by rw [HC.out], ?_, hU.setCell (by simp) _⟩
                rw [← HB.out, HP.out]
                have := HM.out.set (i + n) (.int .i64 (bit (s + X * 2 ^ i) (i + n)))
                rw [iv_set, mixL_set _ _ (by have := HP.out; omega)] at this
                exact this
              case measure => simp [intOf]; omega
            · have hx0 : bit X n = 0 := by
                have h1 := HXM.out
                have h2 : X < 2 ^ m := by
                  by_cases h : X < 2 ^ m
                  · exact h
                  · exfalso
                    have := Int.ediv_le_ediv (p2_pos m) (Int.not_lt.1 h)
                    rw [Int.ediv_self (by have := p2_pos m; omega)] at this
                    omega
                have h3 := p2_mono (i := m) (j := n) (by omega)
                unfold bit
                rw [div_small HS.out.x0 (by omega)]; rfl
              have hc1 : cb = 1 := by omega
              subst hc1
              rw [hx0, Int.add_zero] at HC HB
              clear hgo hx0 b2 b3
              go_wp2
              go_roundw
              case rel =>
                refine ⟨n + 1, by have := HP.out; omega, by go_num, by rw [HC.out], ?_, hU.setCell (by simp) _⟩
                rw [← HB.out, HP.out]
                have := HM.out.set (i + n) (.int .i64 (bit (s + X * 2 ^ i) (i + n)))
                rw [iv_set, mixL_set _ _ (by have := HP.out; omega)] at this
                exact this
              case measure => simp [intOf]; omega
          · have hnm : ¬ n < m := fun h => hgo (.inl h)
            have hc0 : mcarry s X i n = 0 := by
              have : ¬ 0 < mcarry s X i n := fun h => hgo (.inr h)
              omega
            have hend : mixL s (s + X * 2 ^ i) 1040 (i + n) = bitsL (s + X * 2 ^ i) 1040 := mixL_end _ _ _ fun j hj => mcarry_end hc0 (by
              have h1 := HXM.out
              have h2 : X < 2 ^ m := by
                by_cases h : X < 2 ^ m
                · exact h
                · exfalso
                  have := Int.ediv_le_ediv (p2_pos m) (Int.not_lt.1 h)
                  rw [Int.ediv_self (by have := p2_pos m; omega)] at this
                  omega
              have h3 := p2_mono (i := m) (j := n) (by omega)
              exact div_small HS.out.x0 (by omega)) hj
            rw [hend, HE.out] at hM
            rw [hc0]
            clear hend hc0 hgo b3
            go_wp2
            go_roundw
            case rel => exact ⟨i + 1, by omega, by go_num, hM, hU⟩
            case measure => simp [intOf]; omega
    · obtain rfl : i = 520 := by omega
      rw [mod_all HS.out.y0 HS.out.y1] at hG
      have jA := hA.below hV lA; have jC := hC.below hV lC; have jR := hR.below hV lR
      have jW := hW.trans (hV.mono hW.size)
      clear j6 j7 q6 q7 f7 hB6 hB7
      have n1 := jA.lt; have n2 := jC.lt; have n3 := jR.lt
      have a0 := (jA).cell 0; have a1 := (jA).cell 1; have a2 := (jA).cell 2; have a3 := (jA).cell 3; have a4 := (jA).cell 4; have a5 := (jA).cell 5; have a6 := (jA).cell 6; have a7 := (jA).cell 7; have af := (jA).free
      simp only [List.getElem?_cons_zero, List.getElem?_cons_succ] at a0 a1 a2 a3 a4 a5 a6 a7
      have c0 := (jC).cell 0; have c1 := (jC).cell 1; have c2 := (jC).cell 2; have c3 := (jC).cell 3; have c4 := (jC).cell 4; have c5 := (jC).cell 5; have c6 := (jC).cell 6; have c7 := (jC).cell 7; have cf := (jC).free
      simp only [List.getElem?_cons_zero, List.getElem?_cons_succ] at c0 c1 c2 c3 c4 c5 c6 c7
      by_cases hd : decide (x < 0) = decide (y < 0)
      · have HX2 := Lib.hid (HXY.out.trans (if_pos hd))
        have HD := Lib.hid hd
        clear hd
        generalize hdx : decide (x < 0) = dx at *
        have HDX := Lib.hid hdx
        clear hdx
        go_wp2
        refine wp_region_ph [(5, .free [])] (by kernel_rfl) (by kernel_rfl) ?_
        refine Ph.belowd ?_
        simp only [List.drop_succ_cons, List.drop_zero, List.take_succ_cons, List.take_zero, Nat.reduceSub, Nat.sub_zero]
        iterate 1 (refine SeqO.val (v := ?_) (by rfl) (by rfl) (fun w1 hS => ?_) ?_; rotate_left; (· obtain ⟨hc, hcf⟩ := bcell hS; go_simp; try with_reducible rfl); simp only [Act.put, List.setIfInBounds_toArray, List.set_cons_zero, List.set_cons_succ])
        refine SeqO.callv (by rfl) (by rfl) (by rfl) cf97 (by simp [Act.eval]) (fun w1 hS => (belowB (mid_fits HX.out) w1).eq (by rw [HDX.out])) ?_
        simp only [Act.put, List.setIfInBounds_toArray, List.set_cons_zero, List.set_cons_succ]
        iterate 1 (refine SeqO.val (v := ?_) (by rfl) (by rfl) (fun w1 hS => ?_) ?_; rotate_left; (· obtain ⟨hc, hcf⟩ := bcell hS; go_simp; try with_reducible rfl); simp only [Act.put, List.setIfInBounds_toArray, List.set_cons_zero, List.set_cons_succ])
        refine SeqO.callv (by rfl) (by rfl) (by rfl) cf97 (by simp [Act.eval]) (fun w1 hS => (belowB (mid_fits HY.out) w1).eq (by rw [← HD.out])) ?_
        simp only [Act.put, List.setIfInBounds_toArray, List.set_cons_zero, List.set_cons_succ]
        iterate 1 (refine SeqO.val (v := ?_) (by rfl) (by rfl) (fun w1 hS => ?_) ?_; rotate_left; (· obtain ⟨hc, hcf⟩ := bcell hS; go_simp; try with_reducible rfl); simp only [Act.put, List.setIfInBounds_toArray, List.set_cons_zero, List.set_cons_succ])
        refine SeqO.nil0 fun w5 hS => ?_
        have jG := hG.step hS; have jR := jR.step hS; have jW := jW.trans (hS.mono jW.size)
        refine Ph.last ?_
        simp only [List.drop_succ_cons, List.drop_zero, List.take_succ_cons, List.take_zero, Nat.reduceSub, Nat.sub_zero]
        clear a0 a1 a2 a3 a4 a5 a6 a7 af
        clear c0 c1 c2 c3 c4 c5 c6 c7 cf
        clear hS hG jA jC n1 n2 n3 q9
        go_wp2_with fail
        refine (ofB (x := X * Y) (by rw [← HX2.out]; exact fits_mul HX.out HY.out) 1040 w3.heap.size (by omega) (by omega) _ jG).mono ?_
        rintro e w6 ⟨rfl, hS⟩
        have jR := jR.step hS; have jW := jW.trans (hS.mono jW.size)
        clear hS jG
        have n3 := jR.lt
        have q0 := (jR).cell 0; have q1 := (jR).cell 1; have q2 := (jR).cell 2; have q3 := (jR).cell 3; have q4 := (jR).cell 4; have q5 := (jR).cell 5; have q6 := (jR).cell 6; have q7 := (jR).cell 7; have qf := (jR).free
        simp only [List.getElem?_cons_zero, List.getElem?_cons_succ] at q0 q1 q2 q3 q4 q5 q6 q7
        go_wp2
        rw [HX2.out]
        exact bodyPost_ret (v := .tuple #[.agg #[.int .u64 (w8 (X * Y)).a, .int .u64 (w8 (X * Y)).b, .int .u64 (w8 (X * Y)).c, .int .u64 (w8 (X * Y)).d, .int .u64 (w8 (X * Y)).e, .int .u64 (w8 (X * Y)).f, .int .u64 (w8 (X * Y)).g, .int .u64 (w8 (X * Y)).h], .bool true]) (by simp [results, Try.results94, go_sem, *]) rfl ⟨rfl, ((((((((jW).setCell (by first | omega | (simp; done) | (simp; omega)) _).setCell (by first | omega | (simp; done) | (simp; omega)) _).setCell (by first | omega | (simp; done) | (simp; omega)) _).setCell (by first | omega | (simp; done) | (simp; omega)) _).setCell (by first | omega | (simp; done) | (simp; omega)) _).setCell (by first | omega | (simp; done) | (simp; omega)) _).setCell (by first | omega | (simp; done) | (simp; omega)) _).setCell (by first | omega | (simp; done) | (simp; omega)) _⟩
      · have HX2 := Lib.hid (HXY.out.trans (if_neg hd))
        have HD := Lib.hid (show decide (y < 0) = !decide (x < 0) by revert hd; generalize decide (x < 0) = p; generalize decide (y < 0) = q; cases p <;> cases q <;> simp)
        clear hd
        generalize hdx : decide (x < 0) = dx at *
        have HDX := Lib.hid hdx
        clear hdx
        cases dx
        all_goals
          go_wp2
          refine wp_region_ph [(5, .free [])] (by kernel_rfl) (by kernel_rfl) ?_
          refine Ph.belowd ?_
          simp only [List.drop_succ_cons, List.drop_zero, List.take_succ_cons, List.take_zero, Nat.reduceSub, Nat.sub_zero]
          iterate 1 (refine SeqO.val (v := ?_) (by rfl) (by rfl) (fun w1 hS => ?_) ?_; rotate_left; (· obtain ⟨hc, hcf⟩ := bcell hS; go_simp; try with_reducible rfl); simp only [Act.put, List.setIfInBounds_toArray, List.set_cons_zero, List.set_cons_succ])
          refine SeqO.callv (by rfl) (by rfl) (by rfl) cf97 (by simp [Act.eval]) (fun w1 hS => (belowB (mid_fits HX.out) w1).eq (by rw [HDX.out])) ?_
          simp only [Act.put, List.setIfInBounds_toArray, List.set_cons_zero, List.set_cons_succ]
          iterate 1 (refine SeqO.val (v := ?_) (by rfl) (by rfl) (fun w1 hS => ?_) ?_; rotate_left; (· obtain ⟨hc, hcf⟩ := bcell hS; go_simp; try with_reducible rfl); simp only [Act.put, List.setIfInBounds_toArray, List.set_cons_zero, List.set_cons_succ])
          refine SeqO.callv (by rfl) (by rfl) (by rfl) cf97 (by simp [Act.eval]) (fun w1 hS => (belowB (mid_fits HY.out) w1).eq (by rw [HD.out])) ?_
          simp only [Act.put, List.setIfInBounds_toArray, List.set_cons_zero, List.set_cons_succ]
          iterate 1 (refine SeqO.val (v := ?_) (by rfl) (by rfl) (fun w1 hS => ?_) ?_; rotate_left; (· obtain ⟨hc, hcf⟩ := bcell hS; go_simp; try with_reducible rfl); simp only [Act.put, List.setIfInBounds_toArray, List.set_cons_zero, List.set_cons_succ])
          refine SeqO.nil0 fun w5 hS => ?_
          have jG := hG.step hS; have jR := jR.step hS; have jW := jW.trans (hS.mono jW.size)
          refine Ph.last ?_
          simp only [List.drop_succ_cons, List.drop_zero, List.take_succ_cons, List.take_zero, Nat.reduceSub, Nat.sub_zero]
          clear a0 a1 a2 a3 a4 a5 a6 a7 af
          clear c0 c1 c2 c3 c4 c5 c6 c7 cf
          clear hS hG jA jC n1 n2 n3 q9
          go_wp2_with fail
          refine Calls.mono (minusB (X * Y) 1040 w3.heap.size (by omega) _ jG) ?_
          rintro e w6 ⟨_, rfl, ⟨g8, rfl, hge8, hB8⟩, hS⟩
          have jR := jR.step hS; have jW := jW.trans (hS.mono jW.size)
          clear hS jG
          go_wp2_with fail
          refine (ofB (x := -(X * Y)) (by rw [← HX2.out]; exact fits_mul HX.out HY.out) 1040 g8 (by omega) (by omega) _ hB8).mono ?_
          rintro e w7 ⟨rfl, hS⟩
          have jR := jR.step hS; have jW := jW.trans (hS.mono jW.size)
          clear hS hB8
          have n3 := jR.lt
          have q0 := (jR).cell 0; have q1 := (jR).cell 1; have q2 := (jR).cell 2; have q3 := (jR).cell 3; have q4 := (jR).cell 4; have q5 := (jR).cell 5; have q6 := (jR).cell 6; have q7 := (jR).cell 7; have qf := (jR).free
          simp only [List.getElem?_cons_zero, List.getElem?_cons_succ] at q0 q1 q2 q3 q4 q5 q6 q7
          go_wp2
          rw [HX2.out]
          exact bodyPost_ret (v := .tuple #[.agg #[.int .u64 (w8 (-(X * Y))).a, .int .u64 (w8 (-(X * Y))).b, .int .u64 (w8 (-(X * Y))).c, .int .u64 (w8 (-(X * Y))).d, .int .u64 (w8 (-(X * Y))).e, .int .u64 (w8 (-(X * Y))).f, .int .u64 (w8 (-(X * Y))).g, .int .u64 (w8 (-(X * Y))).h], .bool true]) (by simp [results, Try.results94, go_sem, *]) rfl ⟨rfl, ((((((((jW).setCell (by first | omega | (simp; done) | (simp; omega)) _).setCell (by first | omega | (simp; done) | (simp; omega)) _).setCell (by first | omega | (simp; done) | (simp; omega)) _).setCell (by first | omega | (simp; done) | (simp; omega)) _).setCell (by first | omega | (simp; done) | (simp; omega)) _).setCell (by first | omega | (simp; done) | (simp; omega)) _).setCell (by first | omega | (simp; done) | (simp; omega)) _).setCell (by first | omega | (simp; done) | (simp; omega)) _⟩
end Go.Proofs.Ytbbiefgmlklafaa
