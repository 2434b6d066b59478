/- The document's bits: the walks, third part. No condition. -/
import Derived.Test.YtbbiefgmlklafaaRBit2
import Derived.Test.YtbbiefgmlklafaaBit2
namespace Go.Proofs.Ytbbiefgmlklafaa
set_option linter.unusedVariables false
set_option linter.unusedSimpArgs false
open Go.RowKit Go.NP
def cmpI (x y : Int) : Int := if x = y then 0 else if x < y then -1 else 1
theorem cf95 (args : Array Value) (w1 : World) : (callFunc 95 args).run Try.prog w1 = .ok (.enter 95 args) w1 := enters Try.func95 (by kernel_rfl) (by kernel_rfl) args w1
theorem neg_fit {y : Int} (h : fits y) : True := trivial
set_option maxRecDepth 100000 in
set_option maxHeartbeats 2000000 in
theorem cmpB {x y : Int} (hx : mid x) (hy : mid y) (w : World) : RetB Try.prog 41 #[.agg #[.int .u64 (w8 x).a, .int .u64 (w8 x).b, .int .u64 (w8 x).c, .int .u64 (w8 x).d, .int .u64 (w8 x).e, .int .u64 (w8 x).f, .int .u64 (w8 x).g, .int .u64 (w8 x).h], .agg #[.int .u64 (w8 y).a, .int .u64 (w8 y).b, .int .u64 (w8 y).c, .int .u64 (w8 y).d, .int .u64 (w8 y).e, .int .u64 (w8 y).f, .int .u64 (w8 y).g, .int .u64 (w8 y).h]] w (.int .i64 (cmpI x y)) := by
  have HX := Lib.hid (mid_fits hx); have HY := Lib.hid (mid_fits hy)
  have hd : -2 ^ 251 ≤ x + -y ∧ x + -y ≤ 2 ^ 251 := by
    obtain ⟨a0, a1⟩ := hx; obtain ⟨b0, b1⟩ := hy
    have e : (2 : Int) ^ 251 = 2 ^ 250 * 2 := Int.pow_succ ..
    rw [e]; omega
  have hb : bit (x + -y) 519 = sbit (x + -y) := by
    have := p2_mono (i := 251) (j := 252) (by omega)
    have e : (2 : Int) ^ 252 = 2 ^ 251 * 2 := Int.pow_succ ..
    have hp := p2_pos 251
    exact bit_high (k := 252) (by omega) (by omega) (by omega)
  have HD := Lib.hid hd
  have HB := Lib.hid hb
  clear hx hy hd hb
  unfold RetB
  go_enter Try.func41, Try.ntmps41
  go_wp2
  refine wp_region_ph [(3, .free [1])] (by kernel_rfl) (by kernel_rfl) ?_
  refine Ph.gend [(1, newR (w.heap.size + 1 + 1) 520 (iv (bitsL x 520)) 3)] (by rfl) ?_
  simp only [List.drop_succ_cons, List.drop_zero, List.take_succ_cons, List.take_zero, Nat.reduceSub, Nat.sub_zero]
  iterate 1 (refine SeqO.valG (v := ?_) (by rfl) (by rfl) (fun w1 hS => ?_) ?_; rotate_left; (· obtain ⟨hc, hcf⟩ := bcell hS; go_simp; try with_reducible rfl); simp only [Act.put, List.setIfInBounds_toArray, List.set_cons_zero, List.set_cons_succ])
  refine SeqO.callG (newR (w.heap.size + 1 + 1) 520 (iv (bitsL x 520)) 3) (by rfl) (by simp) (by rfl) (by rfl) cf69 (by simp [Act.eval]) (fun w1 hS => (longB HX.out w1).more (by have := hS.size; simp at this; omega)) ?_
  iterate 1 (refine SeqO.valG (v := ?_) (by rfl) (by rfl) (fun w1 hS => ?_) ?_; rotate_left; (· obtain ⟨hc, hcf⟩ := bcell hS; go_simp; try with_reducible rfl); simp only [Act.put, List.setIfInBounds_toArray, List.set_cons_zero, List.set_cons_succ])
  refine SeqO.nilG (by rfl) fun u w1 hS hK => ?_
  obtain ⟨g1, hg1, hge1, hB1⟩ := hK _ (List.mem_cons_self ..)
  clear hK
  simp only [List.nil_append, List.cons_append, List.foldl_cons, List.foldl_nil, hg1]
  clear hg1
  have hge1 : w.heap.size + 1 + 1 ≤ g1 := hge1
  have hB1 : Box w1 g1 (iv (bitsL x 520)) 3 := hB1
  have hW : Below w.heap.size w w1 := (((Below.refl _ _).alloc (Nat.le_refl _) _).alloc (by simp) _).trans (hS.mono (by simp; omega))
  clear hS
  refine Ph.last ?_
  simp only [List.drop_succ_cons, List.drop_zero, List.take_succ_cons, List.take_zero, Nat.reduceSub, Nat.sub_zero]
  go_wp2_with fail
  refine Calls.mono (longB HY.out _) ?_
  rintro e w2 ⟨_, rfl, ⟨g2, rfl, hge2, hB2⟩, hS⟩
  have hB1 := hB1.step hS
  have hW := hW.trans (hS.mono hW.size)
  clear hS hge2
  go_wp2_with fail
  refine Calls.mono (minusB y 520 g2 (by omega) _ hB2) ?_
  rintro e w3 ⟨_, rfl, ⟨g3, rfl, hge3, hB3⟩, hS⟩
  have hB1 := hB1.step hS
  have hW := hW.trans (hS.mono hW.size)
  clear hS hB2 hge3
  go_wp2_with fail
  refine Calls.mono (plusB x (-y) 520 g1 g3 (by omega) _ hB1 hB3) ?_
  rintro e w4 ⟨_, rfl, ⟨g4, rfl, hge4, hB4⟩, hS⟩
  have hW := hW.trans (hS.mono hW.size)
  clear hS hB1 hB3 hge4 hge1
  have hc := hB4.cell 519
  rw [iv_get (bitsL_get _ (by omega)), HB.out] at hc
  have hf := hB4.free
  have hl := hB4.lt
  by_cases hlt : x + -y < 0
  · rw [sbit_neg hlt] at hc
    have hr := Lib.hid (show cmpI x y = -1 from by unfold cmpI; rw [if_neg (by omega), if_pos (by omega)])
    clear hlt
    go_wp2
    go_ret
    exact ⟨retI (by rw [hr.out]), hW⟩
  · rw [sbit_pos hlt] at hc
    have HN := Lib.hid hlt
    clear hlt
    go_wp2
    clear hc
    go_loop [6] (fun i => ∃ k : Nat, k ≤ 520 ∧ i = .int .i64 k ∧ ∀ j, j < k → bit (x + -y) j = 0) (fun i => 520 - (intOf i).toNat)
    case atStart => exact ⟨0, by omega, rfl, fun j hj => absurd hj (by omega)⟩
    case round =>
      obtain ⟨k, hk, rfl, hz⟩ := hrel
      have HZ := Lib.hid hz
      clear hz
      by_cases hkl : k < 520
      · have hc := hB4.cell k
        rw [iv_get (bitsL_get _ hkl)] at hc
        have hb := bit01 (x + -y) k
        by_cases h0 : bit (x + -y) k = 0
        · have H0 := Lib.hid h0
          rw [h0] at hc
          clear h0 hb
          go_wp2
          go_round
          case rel => exact ⟨k + 1, by omega, by go_num, fun j hj => by
            by_cases e : j = k
            · rw [e]; exact H0.out
            · exact HZ.out j (by omega)⟩
          case measure => simp [intOf]; omega
        · have h1 : bit (x + -y) k = 1 := by omega
          have hr := Lib.hid (show cmpI x y = 1 from by
            unfold cmpI
            have := HN.out
            by_cases e : x = y
            · exfalso
              have e2 : x + -y = 0 := by omega
              rw [e2] at h0
              exact h0 (by simp [bit])
            · rw [if_neg e, if_neg (by omega)])
          rw [h1] at hc
          clear h0 h1 hb
          go_wp2
          go_ret
          exact ⟨retI (by rw [hr.out]), hW⟩
      · obtain rfl : k = 520 := by omega
        have hr := Lib.hid (show cmpI x y = 0 from by
          unfold cmpI
          have h0 := HN.out
          have h1 := HD.out
          have hp := p2_mono (i := 251) (j := 520) (by omega)
          have hq : (2 : Int) ^ 251 < 2 ^ 520 := by
            have := p2_mono (i := 252) (j := 520) (by omega)
            have e : (2 : Int) ^ 252 = 2 ^ 251 * 2 := Int.pow_succ ..
            have := p2_pos 251
            omega
          have := bit_zero_of (x := x + -y) (k := 520) (by omega) (by omega) HZ.out
          rw [if_pos (by omega)])
        go_wp2
        go_ret
        exact ⟨retI (by rw [hr.out]), hW⟩
set_option maxRecDepth 100000 in
set_option maxHeartbeats 2000000 in
theorem sizeB {x : Int} (hx : mid x) (w : World) : RetR 95 #[.agg #[.int .u64 (w8 x).a, .int .u64 (w8 x).b, .int .u64 (w8 x).c, .int .u64 (w8 x).d, .int .u64 (w8 x).e, .int .u64 (w8 x).f, .int .u64 (w8 x).g, .int .u64 (w8 x).h]] w 520 (bitsL (x.natAbs : Int) 520) := by
  have HX := Lib.hid (mid_fits hx)
  clear hx
  unfold RetR RetK
  by_cases hlt : x < 0
  · have ha := Lib.hid (show (x.natAbs : Int) = -x by omega)
    have hd := Lib.hid (show decide (x < 0) = true from decide_eq_true hlt)
    clear hlt
    go_enter Try.func95, Try.ntmps95
    go_wp2_with fail
    refine Calls.mono (longB HX.out _) ?_
    rintro e w2 ⟨_, rfl, ⟨g2, rfl, hge2, hB2⟩, hS⟩
    have hA : Box w2 w.heap.size [.int .u64 (w8 x).a, .int .u64 (w8 x).b, .int .u64 (w8 x).c, .int .u64 (w8 x).d, .int .u64 (w8 x).e, .int .u64 (w8 x).f, .int .u64 (w8 x).g, .int .u64 (w8 x).h] 37 := (Box.new rfl).step hS
    have hW : Below w.heap.size w w2 := ((Below.refl _ _).alloc (Nat.le_refl _) _).trans (hS.mono (by simp))
    have y0 := (hA).cell 0; have y1 := (hA).cell 1; have y2 := (hA).cell 2; have y3 := (hA).cell 3; have y4 := (hA).cell 4; have y5 := (hA).cell 5; have y6 := (hA).cell 6; have y7 := (hA).cell 7; have yf := (hA).free
    simp only [List.getElem?_cons_zero, List.getElem?_cons_succ] at y0 y1 y2 y3 y4 y5 y6 y7
    clear hS hA
    go_wp2_with fail
    refine ((belowB HX.out _).eq (by rw [hd.out])).mono ?_
    rintro e w3 ⟨rfl, hS⟩
    have hB2 := hB2.step hS
    have hW := hW.trans (hS.mono hW.size)
    clear y0 y1 y2 y3 y4 y5 y6 y7 yf
    clear hS
    go_wp2_with fail
    refine Calls.mono (minusB x 520 g2 (by omega) _ hB2) ?_
    rintro e w4 ⟨_, rfl, ⟨g4, rfl, hge4, hB4⟩, hS⟩
    have hle := hW.size
    have hW := hW.trans (hS.mono hW.size)
    clear hS hB2
    go_wp2
    go_ret
    rw [ha.out]
    exact ⟨_, rfl, ⟨g4, rfl, by omega, hB4⟩, hW⟩
  · have ha := Lib.hid (show (x.natAbs : Int) = x by omega)
    have hd := Lib.hid (show decide (x < 0) = false from decide_eq_false hlt)
    clear hlt
    go_enter Try.func95, Try.ntmps95
    go_wp2_with fail
    refine Calls.mono (longB HX.out _) ?_
    rintro e w2 ⟨_, rfl, ⟨g2, rfl, hge2, hB2⟩, hS⟩
    have hA : Box w2 w.heap.size [.int .u64 (w8 x).a, .int .u64 (w8 x).b, .int .u64 (w8 x).c, .int .u64 (w8 x).d, .int .u64 (w8 x).e, .int .u64 (w8 x).f, .int .u64 (w8 x).g, .int .u64 (w8 x).h] 37 := (Box.new rfl).step hS
    have hW : Below w.heap.size w w2 := ((Below.refl _ _).alloc (Nat.le_refl _) _).trans (hS.mono (by simp))
    have y0 := (hA).cell 0; have y1 := (hA).cell 1; have y2 := (hA).cell 2; have y3 := (hA).cell 3; have y4 := (hA).cell 4; have y5 := (hA).cell 5; have y6 := (hA).cell 6; have y7 := (hA).cell 7; have yf := (hA).free
    simp only [List.getElem?_cons_zero, List.getElem?_cons_succ] at y0 y1 y2 y3 y4 y5 y6 y7
    clear hS hA
    go_wp2_with fail
    refine ((belowB HX.out _).eq (by rw [hd.out])).mono ?_
    rintro e w3 ⟨rfl, hS⟩
    have hB2 := hB2.step hS
    have hW := hW.trans (hS.mono hW.size)
    clear y0 y1 y2 y3 y4 y5 y6 y7 yf
    clear hS
    go_wp2
    go_ret
    rw [ha.out]
    exact ⟨_, rfl, ⟨g2, rfl, by have := hge2; simp at this; omega, hB2⟩, hW⟩
set_option maxRecDepth 100000 in
set_option maxHeartbeats 2000000 in
theorem topBC {x : Int} (h0 : 0 ≤ x) (h1 : x < 2 ^ 520) (g : Nat) (w : World) (hB : Box w g (iv (bitsL x 520)) 3) :
    Calls Try.prog 96 #[.slice (some ⟨g, 0, none⟩) 520 520] w fun e w' => (∃ m : Nat, m ≤ 520 ∧ e = .returned (.int .i64 m) ∧ x / 2 ^ m = 0) ∧ w' = w := by
  have HH := Lib.hid (show ∀ m, (∀ i, m ≤ i → i < 520 → bit x i = 0) → x / 2 ^ m = 0 from fun m h => lt_of_bits h0 h1 h)
  clear h0 h1
  have hf := hB.free
  have hl := hB.lt
  go_enter Try.func96, Try.ntmps96
  go_wp2
  go_loop [3] (fun i => ∃ m : Nat, m ≤ 520 ∧ i = .int .i64 m ∧ ∀ i, m ≤ i → i < 520 → bit x i = 0) (fun i => (intOf i).toNat)
  case atStart => exact ⟨520, by omega, rfl, fun i h1 h2 => absurd h1 (by omega)⟩
  case round =>
    obtain ⟨m, hm, rfl, hz⟩ := hrel
    have HZ := Lib.hid hz
    clear hz
    rcases m with _ | m
    · go_wp2
      go_ret
      exact ⟨⟨0, by omega, rfl, HH.out _ HZ.out⟩, rfl⟩
    · have hc := hB.cell m
      rw [iv_get (bitsL_get _ (by omega))] at hc
      have hb := bit01 x m
      have HM := Lib.hid (show m + 1 ≤ 520 from hm)
      have hm' : m < 520 := by omega
      clear hm
      generalize hn : (((m + 1 : Nat)) : Int) = n
      have h1 : 0 < n := by omega
      have h2 : n ≤ 520 := by omega
      have e1 : n - 1 = (m : Int) := by omega
      have HN := Lib.hid hn
      clear hn
      by_cases hz : bit x m = 0
      · have H0 := Lib.hid hz
        rw [hz] at hc
        clear hz hb
        go_wp2
        go_round
        case rel => exact ⟨m, by omega, rfl, fun j h1 h2 => by
          by_cases e : j = m
          · rw [e]; exact H0.out
          · exact HZ.out j (by omega) h2⟩
        case measure => simp [intOf]; omega
      · have hz1 : bit x m = 1 := by omega
        rw [hz1] at hc
        clear hz hz1 hb
        go_wp2
        go_ret
        exact ⟨⟨m + 1, HM.out, retI HN.out.symm, HH.out _ HZ.out⟩, rfl⟩
end Go.Proofs.Ytbbiefgmlklafaa
