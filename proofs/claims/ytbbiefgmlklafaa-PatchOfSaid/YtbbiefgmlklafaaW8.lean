/- Eight words as integers: sums, differences, sizes, order, in plain numbers. No condition. -/
import Derived.Test.YtbbiefgmlklafaaBit2
import Derived.Test.YtbbiefgmlklafaaRBit3
namespace Go.Proofs.Ytbbiefgmlklafaa
set_option linter.unusedVariables false
open Go.NP
/-- The eighth part of a number that begins at word j. -/
def dv (x : Int) (j : Nat) : Int := x / 2 ^ (64 * j)
theorem e64 : (2 : Int) ^ 64 = 18446744073709551616 := by decide
theorem limb_dv (x : Int) (j : Nat) : limb x j = dv x j % 18446744073709551616 := by unfold limb dv; rw [e64]
theorem dv_zero (x : Int) : dv x 0 = x := by unfold dv; rw [Nat.mul_zero, Int.pow_zero, Int.ediv_one]
theorem dv_succ (x : Int) (j : Nat) : dv x (j + 1) = dv x j / 18446744073709551616 := by
  unfold dv
  rw [show 64 * (j + 1) = 64 * j + 64 by omega, Int.pow_add, ← Int.ediv_ediv_of_nonneg (Int.le_of_lt (p2_pos _)), e64]
/-- What is carried into word j. -/
def wc (x y c : Int) (j : Nat) : Int := dv (x + y + c) j - dv x j - dv y j
theorem wc_zero (x y c : Int) : wc x y c 0 = c := by unfold wc; simp only [dv_zero]; omega
theorem wc_succ (x y c : Int) (j : Nat) : c64 (limb x j) (limb y j) (wc x y c j) = wc x y c (j + 1) := by
  unfold c64 wc
  simp only [limb_dv, dv_succ]
  omega
theorem ws_eq (x y c : Int) (j : Nat) : s64 (limb x j) (limb y j) (wc x y c j) = limb (x + y + c) j := by
  unfold s64 wc
  simp only [limb_dv]
  omega
theorem plus_w8 (x y c : Int) : plus8 (w8 x) (w8 y) c = w8 (x + y + c) := by
  have h0 : c = wc x y c 0 := (wc_zero x y c).symm
  have h1 : k1 (w8 x) (w8 y) c = wc x y c 1 := by
    show c64 (limb x 0) (limb y 0) c = _
    conv => lhs; rw [h0]
    exact wc_succ x y c 0
  have h2 : k2 (w8 x) (w8 y) c = wc x y c 2 := by show c64 (limb x 1) (limb y 1) (k1 _ _ c) = _; rw [h1]; exact wc_succ x y c 1
  have h3 : k3 (w8 x) (w8 y) c = wc x y c 3 := by show c64 (limb x 2) (limb y 2) (k2 _ _ c) = _; rw [h2]; exact wc_succ x y c 2
  have h4 : k4 (w8 x) (w8 y) c = wc x y c 4 := by show c64 (limb x 3) (limb y 3) (k3 _ _ c) = _; rw [h3]; exact wc_succ x y c 3
  have h5 : k5 (w8 x) (w8 y) c = wc x y c 5 := by show c64 (limb x 4) (limb y 4) (k4 _ _ c) = _; rw [h4]; exact wc_succ x y c 4
  have h6 : k6 (w8 x) (w8 y) c = wc x y c 6 := by show c64 (limb x 5) (limb y 5) (k5 _ _ c) = _; rw [h5]; exact wc_succ x y c 5
  have h7 : k7 (w8 x) (w8 y) c = wc x y c 7 := by show c64 (limb x 6) (limb y 6) (k6 _ _ c) = _; rw [h6]; exact wc_succ x y c 6
  have a0 : s64 (limb x 0) (limb y 0) c = limb (x + y + c) 0 := by
    conv => lhs; rw [h0]
    exact ws_eq x y c 0
  refine L8.ext' a0 ?_ ?_ ?_ ?_ ?_ ?_ ?_
  · show s64 (limb x 1) (limb y 1) (k1 _ _ c) = _; rw [h1]; exact ws_eq x y c 1
  · show s64 (limb x 2) (limb y 2) (k2 _ _ c) = _; rw [h2]; exact ws_eq x y c 2
  · show s64 (limb x 3) (limb y 3) (k3 _ _ c) = _; rw [h3]; exact ws_eq x y c 3
  · show s64 (limb x 4) (limb y 4) (k4 _ _ c) = _; rw [h4]; exact ws_eq x y c 4
  · show s64 (limb x 5) (limb y 5) (k5 _ _ c) = _; rw [h5]; exact ws_eq x y c 5
  · show s64 (limb x 6) (limb y 6) (k6 _ _ c) = _; rw [h6]; exact ws_eq x y c 6
  · show s64 (limb x 7) (limb y 7) (k7 _ _ c) = _; rw [h7]; exact ws_eq x y c 7
theorem w8_ok (x : Int) : (w8 x).ok := ⟨limb_range x 0, limb_range x 1, limb_range x 2, limb_range x 3, limb_range x 4, limb_range x 5, limb_range x 6, limb_range x 7⟩
theorem dv_not (x : Int) (j : Nat) : dv (-x - 1) j = -dv x j - 1 := by
  induction j with
  | zero => simp only [dv_zero]
  | succ j ih => rw [dv_succ, dv_succ, ih]; omega
theorem limb_not (x : Int) (j : Nat) : nt (limb x j) = limb (-x - 1) j := by
  rw [nt_eq (limb_range x j), limb_dv, limb_dv, dv_not]; omega
theorem not_w8 (x : Int) : not8 (w8 x) = w8 (-x - 1) :=
  L8.ext' (limb_not x 0) (limb_not x 1) (limb_not x 2) (limb_not x 3) (limb_not x 4) (limb_not x 5) (limb_not x 6) (limb_not x 7)
theorem limb_zero (j : Nat) : limb 0 j = 0 := by unfold limb; simp
theorem z8_w8 : z8 = w8 0 := L8.ext' (limb_zero 0).symm (limb_zero 1).symm (limb_zero 2).symm (limb_zero 3).symm (limb_zero 4).symm (limb_zero 5).symm (limb_zero 6).symm (limb_zero 7).symm
theorem minus_w8 (x : Int) : minus8 (w8 x) = w8 (-x) := by
  unfold minus8
  rw [not_w8, z8_w8, plus_w8]
  congr 1; omega
theorem top_w8 {x : Int} (h : fits x) : topB (w8 x).h = decide (x < 0) := by
  show (limb x 7 / 9223372036854775808 == 1) = _
  rw [fits_top h]
  unfold sbit
  split
  · rename_i h; rw [decide_eq_true h]; rfl
  · rename_i h; rw [decide_eq_false h]; rfl
theorem size_w8 {x : Int} (h : fits x) : size8 (w8 x) = w8 (x.natAbs : Int) := by
  unfold size8
  rw [top_w8 h]
  by_cases hx : x < 0
  · rw [if_pos (decide_eq_true hx), minus_w8]; congr 1; omega
  · rw [if_neg (by simp; omega)]; congr 1; omega
theorem limb_hi {x : Int} (h0 : 0 ≤ x) {k j : Nat} (h1 : x < 2 ^ k) (hj : k ≤ 64 * j) : limb x j = 0 := by
  have := p2_mono hj
  unfold limb
  rw [div_small h0 (by omega)]; rfl
theorem one_w8 {p : Int} (h : isW p) : one8 p = w8 p := by
  have h1 : p < 2 ^ 64 := by rw [e64]; exact h.2
  have hz : ∀ j, 1 ≤ j → (0 : Int) = limb p j := fun j hj => (limb_hi h.1 h1 (by omega)).symm
  have h0 : p = limb p 0 := by rw [limb_dv, dv_zero]; have := h.1; have := h.2; omega
  exact L8.ext' h0 (hz 1 (by omega)) (hz 2 (by omega)) (hz 3 (by omega)) (hz 4 (by omega)) (hz 5 (by omega)) (hz 6 (by omega)) (hz 7 (by omega))
theorem two_w8 {p q : Int} (hp : isW p) (hq : isW q) : two8 p q = w8 (p + q * 18446744073709551616) := by
  obtain ⟨p0, p1⟩ := hp; obtain ⟨q0, q1⟩ := hq
  have h1 : p + q * 18446744073709551616 < 2 ^ 128 := by
    have e : (2 : Int) ^ 128 = 340282366920938463463374607431768211456 := by decide
    rw [e]; omega
  have hn : 0 ≤ p + q * 18446744073709551616 := by omega
  have hz : ∀ j, 2 ≤ j → (0 : Int) = limb (p + q * 18446744073709551616) j := fun j hj => (limb_hi hn h1 (by omega)).symm
  have a0 : p = limb (p + q * 18446744073709551616) 0 := by rw [limb_dv, dv_zero]; omega
  have a1 : q = limb (p + q * 18446744073709551616) 1 := by rw [limb_dv, dv_succ, dv_zero]; omega
  exact L8.ext' a0 a1 (hz 2 (by omega)) (hz 3 (by omega)) (hz 4 (by omega)) (hz 5 (by omega)) (hz 6 (by omega)) (hz 7 (by omega))
theorem sgn_w8 (x : Int) (s : Bool) : sgn8 (w8 x) s = w8 (if s = true then -x else x) := by
  unfold sgn8
  split
  · exact minus_w8 x
  · rfl
theorem mod_mul (x : Int) {P Q : Int} (hP : 0 < P) (hQ : 0 < Q) : x % (P * Q) = x / P % Q * P + x % P := by
  have e1 : x = P * (x / P) + x % P := (Int.mul_ediv_add_emod _ _).symm
  have e2 : x / P = Q * (x / P / Q) + x / P % Q := (Int.mul_ediv_add_emod _ _).symm
  have r0 := Int.emod_nonneg x (b := P) (by omega)
  have r1 := Int.emod_lt_of_pos x hP
  have q0 := Int.emod_nonneg (x / P) (b := Q) (by omega)
  have q1 := Int.emod_lt_of_pos (x / P) hQ
  have e3 : x = (x / P % Q * P + x % P) + P * Q * (x / P / Q) := by
    have e4 : P * (x / P) = P * (Q * (x / P / Q)) + P * (x / P % Q) := by rw [← Int.mul_add, ← e2]
    have e5 : P * Q * (x / P / Q) = P * (Q * (x / P / Q)) := Int.mul_assoc ..
    have e6 : x / P % Q * P = P * (x / P % Q) := Int.mul_comm ..
    omega
  have h0 : 0 ≤ x / P % Q * P := Int.mul_nonneg q0 (by omega)
  have h1 : (x / P % Q + 1) * P ≤ Q * P := Int.mul_le_mul_of_nonneg_right (by omega) (by omega)
  rw [Int.add_mul, Int.one_mul, Int.mul_comm Q P] at h1
  have e7 : x % (P * Q) = ((x / P % Q * P + x % P) + P * Q * (x / P / Q)) % (P * Q) := by rw [← e3]
  rw [e7, Int.add_mul_emod_self_left]
  exact Int.emod_eq_of_lt (by omega) (by omega)
/-- Numbers held against each other by what stands below word j. -/
theorem low_succ (x : Int) (j : Nat) : x % 2 ^ (64 * (j + 1)) = limb x j * 2 ^ (64 * j) + x % 2 ^ (64 * j) := by
  have hp := p2_pos (64 * j)
  have e1 : (2 : Int) ^ (64 * (j + 1)) = 2 ^ (64 * j) * 18446744073709551616 := by
    rw [show 64 * (j + 1) = 64 * j + 64 by omega, Int.pow_add, e64]
  rw [e1, mod_mul x hp (by decide), limb_dv]
  rfl
theorem low_range (x : Int) (j : Nat) : 0 ≤ x % 2 ^ (64 * j) ∧ x % 2 ^ (64 * j) < 2 ^ (64 * j) :=
  ⟨Int.emod_nonneg _ (by have := p2_pos (64 * j); omega), Int.emod_lt_of_pos _ (p2_pos _)⟩
theorem step_low (x y : Int) (j : Nat) : step8 (limb x j) (limb y j) (cmpI (x % 2 ^ (64 * j)) (y % 2 ^ (64 * j))) = cmpI (x % 2 ^ (64 * (j + 1))) (y % 2 ^ (64 * (j + 1))) := by
  rw [low_succ, low_succ]
  obtain ⟨a0, a1⟩ := low_range x j
  obtain ⟨b0, b1⟩ := low_range y j
  have hp := p2_pos (64 * j)
  generalize x % 2 ^ (64 * j) = u at *
  generalize y % 2 ^ (64 * j) = v at *
  generalize limb x j = l at *
  generalize limb y j = m at *
  generalize (2 : Int) ^ (64 * j) = P at *
  unfold step8
  by_cases h : l = m
  · subst h; rw [if_pos rfl]
    by_cases huv : u = v
    · subst huv; simp [cmpI]
    · by_cases hlt : u < v
      · rw [show cmpI u v = -1 by unfold cmpI; rw [if_neg huv, if_pos hlt]]
        unfold cmpI; rw [if_neg (by omega), if_pos (by omega)]
      · rw [show cmpI u v = 1 by unfold cmpI; rw [if_neg huv, if_neg hlt]]
        unfold cmpI; rw [if_neg (by omega), if_neg (by omega)]
  · rw [if_neg h]
    generalize cmpI u v = rr
    unfold cmpI
    by_cases hlt : l < m
    · have h1 : (l + 1) * P ≤ m * P := Int.mul_le_mul_of_nonneg_right (by omega) (by omega)
      rw [Int.add_mul, Int.one_mul] at h1
      rw [if_pos hlt, if_neg (by omega), if_pos (by omega)]
    · have h1 : (m + 1) * P ≤ l * P := Int.mul_le_mul_of_nonneg_right (by omega) (by omega)
      rw [Int.add_mul, Int.one_mul] at h1
      rw [if_neg hlt, if_neg (by omega), if_neg (by omega)]
theorem low_zero (x : Int) : x % 2 ^ (64 * 0) = 0 := by rw [Nat.mul_zero, Int.pow_zero, Int.emod_one]
theorem above_w8 (x y : Int) : above8 (w8 x) (w8 y) = cmpI (x % 2 ^ (64 * 8)) (y % 2 ^ (64 * 8)) := by
  have h0 : (0 : Int) = cmpI (x % 2 ^ (64 * 0)) (y % 2 ^ (64 * 0)) := by rw [low_zero, low_zero]; rfl
  show step8 (limb x 7) (limb y 7) (step8 (limb x 6) (limb y 6) (step8 (limb x 5) (limb y 5) (step8 (limb x 4) (limb y 4) (step8 (limb x 3) (limb y 3) (step8 (limb x 2) (limb y 2) (step8 (limb x 1) (limb y 1) (step8 (limb x 0) (limb y 0) 0))))))) = _
  rw [h0, step_low, step_low, step_low, step_low, step_low, step_low, step_low, step_low]
theorem fits_512 {x : Int} (h : fits x) : x % 2 ^ (64 * 8) = if x < 0 then x + 2 ^ 512 else x := by
  obtain ⟨k, hk, h0, h1⟩ := h
  have hm := p2_mono (i := k) (j := 512) (by omega)
  have e : (2 : Int) ^ (64 * 8) = 2 ^ 512 := rfl
  rw [e]
  generalize (2 : Int) ^ 512 = P at *
  generalize (2 : Int) ^ k = K at *
  split
  · rw [← Int.add_emod_right]; exact Int.emod_eq_of_lt (by omega) (by omega)
  · exact Int.emod_eq_of_lt (by omega) (by omega)
theorem cmp_w8 {x y : Int} (hx : fits x) (hy : fits y) : cmp8 (w8 x) (w8 y) = cmpI x y := by
  unfold cmp8
  rw [top_w8 hx, top_w8 hy, above_w8, fits_512 hx, fits_512 hy]
  generalize (2 : Int) ^ 512 = P
  unfold cmpI
  by_cases h1 : x < 0 <;> by_cases h2 : y < 0 <;> simp only [h1, h2, decide_true, decide_false, if_true, if_false]
  · by_cases e : x = y
    · subst e; rw [if_pos rfl, if_pos rfl]
    · rw [if_neg e, if_neg (by omega)]
      by_cases hlt : x < y
      · rw [if_pos hlt, if_pos (by omega)]
      · rw [if_neg hlt, if_neg (by omega)]
  · rw [if_neg (by simp), if_neg (by omega), if_pos (by omega)]
  · rw [if_neg (by simp), if_neg (by simp), if_neg (by omega), if_neg (by omega)]
end Go.Proofs.Ytbbiefgmlklafaa
