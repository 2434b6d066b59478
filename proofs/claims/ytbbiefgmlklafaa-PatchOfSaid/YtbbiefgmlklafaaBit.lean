/- Bits of integers, in plain numbers. No condition. -/
import Derived.Below
namespace Go.NP
/-- A bit of an integer. -/
def bit (n : Int) (i : Nat) : Int := n / 2 ^ i % 2
theorem bit01 (n : Int) (i : Nat) : 0 ≤ bit n i ∧ bit n i ≤ 1 := by unfold bit; omega
theorem p2_pos (i : Nat) : (0 : Int) < 2 ^ i := by
  induction i with
  | zero => decide
  | succ i ih => rw [Int.pow_succ]; omega
theorem div_succ (n : Int) (i : Nat) : n / 2 ^ (i + 1) = n / 2 ^ i / 2 := by
  rw [Int.pow_succ, Int.ediv_ediv_of_nonneg (Int.le_of_lt (p2_pos i))]
theorem div_zero' (n : Int) : n / 2 ^ 0 = n := by rw [Int.pow_zero]; exact Int.ediv_one n
/-- What is carried into place i of a sum. -/
def carry (a b : Int) (i : Nat) : Int := (a + b) / 2 ^ i - a / 2 ^ i - b / 2 ^ i
theorem carry_zero (a b : Int) : carry a b 0 = 0 := by unfold carry; simp only [div_zero']; omega
theorem carry_succ (a b : Int) (i : Nat) : carry a b (i + 1) = (bit a i + bit b i + carry a b i) / 2 := by
  unfold carry bit; simp only [div_succ]; omega
theorem bit_add (a b : Int) (i : Nat) : bit (a + b) i = (bit a i + bit b i + carry a b i) % 2 := by
  unfold carry bit; omega
theorem carry01 (a b : Int) : ∀ i, 0 ≤ carry a b i ∧ carry a b i ≤ 1
  | 0 => by rw [carry_zero]; omega
  | i + 1 => by
    have h1 := carry01 a b i; have h2 := bit01 a i; have h3 := bit01 b i
    rw [carry_succ]; omega
/-- What is carried into place i of less than 0 by as much. -/
def borrow (a : Int) (i : Nat) : Int := (-a) / 2 ^ i + a / 2 ^ i + 1
theorem borrow_zero (a : Int) : borrow a 0 = 1 := by unfold borrow; simp only [div_zero']; omega
theorem borrow_succ (a : Int) (i : Nat) : borrow a (i + 1) = (1 - bit a i + borrow a i) / 2 := by
  unfold borrow bit; simp only [div_succ]; omega
theorem bit_neg (a : Int) (i : Nat) : bit (-a) i = (1 - bit a i + borrow a i) % 2 := by
  unfold borrow bit; omega
theorem borrow01 (a : Int) : ∀ i, 0 ≤ borrow a i ∧ borrow a i ≤ 1
  | 0 => by rw [borrow_zero]; omega
  | i + 1 => by
    have h1 := borrow01 a i; have h2 := bit01 a i
    rw [borrow_succ]; omega
/-- A row of n numbers, of which the first k have been written. -/
def fillAt (f : Nat → Int) (n k : Nat) : List Int := (List.range n).map fun i => if i < k then f i else 0
theorem fillAt_len (f : Nat → Int) (n k : Nat) : (fillAt f n k).length = n := by simp [fillAt]
theorem fillAt_get (f : Nat → Int) {n : Nat} (k : Nat) {i : Nat} (hi : i < n) : (fillAt f n k)[i]? = some (if i < k then f i else 0) := by
  unfold fillAt; rw [List.getElem?_map, List.getElem?_range hi]; rfl
theorem fillAt_zero (f : Nat → Int) (n : Nat) : fillAt f n 0 = List.replicate n 0 := by
  apply List.ext_getElem?
  intro i
  by_cases hi : i < n
  · rw [fillAt_get f 0 hi, List.getElem?_replicate, if_pos hi, if_neg (by omega)]
  · rw [List.getElem?_eq_none (by rw [fillAt_len]; omega), List.getElem?_eq_none (by simp; omega)]
theorem fillAt_all (f : Nat → Int) (n : Nat) : fillAt f n n = (List.range n).map f := by
  apply List.ext_getElem?
  intro i
  by_cases hi : i < n
  · rw [fillAt_get f n hi, if_pos hi, List.getElem?_map, List.getElem?_range hi]; rfl
  · rw [List.getElem?_eq_none (by rw [fillAt_len]; omega), List.getElem?_eq_none (by simp; omega)]
theorem fillAt_set (f : Nat → Int) {n k : Nat} (hk : k < n) : (fillAt f n k).set k (f k) = fillAt f n (k + 1) := by
  apply List.ext_getElem?
  intro i
  rw [List.getElem?_set]
  by_cases hi : i < n
  · rw [fillAt_get f _ hi, fillAt_get f _ hi, fillAt_len]
    by_cases hik : k = i
    · subst hik; rw [if_pos rfl, if_pos hk, if_pos (by omega)]
    · rw [if_neg hik]
      by_cases h2 : i < k
      · rw [if_pos h2, if_pos (by omega)]
      · rw [if_neg h2, if_neg (by omega)]
  · rw [if_neg (by omega), List.getElem?_eq_none (by rw [fillAt_len]; omega), List.getElem?_eq_none (by rw [fillAt_len]; omega)]
/-- The bits of an integer. -/
def bitsL (n : Int) (k : Nat) : List Int := (List.range k).map (bit n)
theorem bitsL_len (n : Int) (k : Nat) : (bitsL n k).length = k := by simp [bitsL]
theorem bitsL_get (n : Int) {k i : Nat} (hi : i < k) : (bitsL n k)[i]? = some (bit n i) := by
  unfold bitsL; rw [List.getElem?_map, List.getElem?_range hi]; rfl
/-- A word of an integer. -/
def limb (n : Int) (j : Nat) : Int := n / 2 ^ (64 * j) % 2 ^ 64
theorem limb_range (n : Int) (j : Nat) : 0 ≤ limb n j ∧ limb n j < 18446744073709551616 := by
  unfold limb
  have e : (2 : Int) ^ 64 = 18446744073709551616 := by decide
  rw [e]; omega
theorem mod_div_bit (m : Int) {j : Nat} (hj : j < 64) : m % 2 ^ 64 / 2 ^ j % 2 = m / 2 ^ j % 2 := by
  have h1 : m % 2 ^ 64 = m - m / 2 ^ 64 * 2 ^ 64 := by rw [Int.emod_def, Int.mul_comm]
  have h2 : (2 : Int) ^ 64 = 2 ^ (63 - j) * 2 * 2 ^ j := by
    rw [← Int.pow_succ, ← Int.pow_add]; congr 1; omega
  have h3 : m - m / 2 ^ 64 * 2 ^ 64 = m + -(m / 2 ^ 64 * (2 ^ (63 - j) * 2)) * 2 ^ j := by
    rw [Int.neg_mul, Int.mul_assoc, ← h2]; omega
  rw [h1, h3, Int.add_mul_ediv_right _ _ (by have := p2_pos j; omega)]
  have h4 : m / 2 ^ 64 * (2 ^ (63 - j) * 2) = m / 2 ^ 64 * 2 ^ (63 - j) * 2 := by rw [Int.mul_assoc]
  rw [h4]
  omega
theorem limb_bit (n : Int) (k : Nat) : limb n (k / 64) / 2 ^ (k % 64) % 2 = bit n k := by
  unfold limb bit
  rw [mod_div_bit _ (Nat.mod_lt _ (by omega)), Int.ediv_ediv_of_nonneg (Int.le_of_lt (p2_pos _)), ← Int.pow_add]
  congr 3; omega
/-- Beyond its size an integer's bits are all alike. -/
theorem div_small {n : Int} {k : Nat} (h0 : 0 ≤ n) (h1 : n < 2 ^ k) : n / 2 ^ k = 0 := Int.ediv_eq_zero_of_lt h0 h1
theorem div_neg {n : Int} {k : Nat} (h0 : n < 0) (h1 : -2 ^ k ≤ n) : n / 2 ^ k = -1 := by
  have hp := p2_pos k
  have h2 : n + 1 * 2 ^ k = n + 2 ^ k := by omega
  have h3 : (n + 1 * 2 ^ k) / 2 ^ k = n / 2 ^ k + 1 := Int.add_mul_ediv_right _ _ (by omega)
  have h4 : (n + 2 ^ k) / 2 ^ k = 0 := Int.ediv_eq_zero_of_lt (by omega) (by omega)
  rw [h2, h4] at h3; omega
theorem p2_mono {i j : Nat} (h : i ≤ j) : (2 : Int) ^ i ≤ 2 ^ j := by
  induction h with
  | refl => exact Int.le_refl _
  | step _ ih => rw [Int.pow_succ]; have := p2_pos i; omega
def sbit (n : Int) : Int := if n < 0 then 1 else 0
theorem bit_high {n : Int} {k i : Nat} (h0 : -2 ^ k ≤ n) (h1 : n < 2 ^ k) (hi : k ≤ i) : bit n i = sbit n := by
  have hm := p2_mono hi
  unfold bit sbit
  by_cases h : n < 0
  · rw [div_neg h (by omega), if_pos h]; rfl
  · rw [div_small (by omega) (by omega), if_neg h]; rfl
theorem limb_small {n : Int} (h0 : -9223372036854775808 ≤ n) (h1 : n < 9223372036854775808) {j : Nat} (hj : 0 < j) : limb n j = (n / 9223372036854775808) % 18446744073709551616 := by
  have e : (2 : Int) ^ 64 = 18446744073709551616 := by decide
  have e' : (2 : Int) ^ 63 = 9223372036854775808 := by decide
  have hm : (2 : Int) ^ 63 ≤ 2 ^ (64 * j) := p2_mono (by omega)
  unfold limb
  rw [e]
  by_cases h : n < 0
  · rw [div_neg h (by omega), show n / 9223372036854775808 = -1 by omega]
  · rw [div_small (by omega) (by omega), show n / 9223372036854775808 = 0 by omega]
/-- What has been gathered of word j of an integer, when its bits from m on have been added. -/
def prt (x : Int) (m j : Nat) : Int := x / 2 ^ (max m (64 * j)) % 2 ^ (64 * (j + 1) - max m (64 * j))
theorem mod_double (y p : Int) (hp : 0 < p) : y % (p * 2) = y / 2 % p * 2 + y % 2 := by
  have e1 : y = 2 * (y / 2) + y % 2 := by omega
  have e2 : y / 2 = p * (y / 2 / p) + y / 2 % p := (Int.mul_ediv_add_emod _ _).symm
  have e3 : y = (y / 2 % p * 2 + y % 2) + p * 2 * (y / 2 / p) := by
    have : p * 2 * (y / 2 / p) = 2 * (p * (y / 2 / p)) := by rw [Int.mul_comm p 2, Int.mul_assoc]
    omega
  have b1 : 0 ≤ y / 2 % p := Int.emod_nonneg _ (by omega)
  have b2 : y / 2 % p < p := Int.emod_lt_of_pos _ hp
  have e4 : y % (p * 2) = ((y / 2 % p * 2 + y % 2) + p * 2 * (y / 2 / p)) % (p * 2) := by rw [← e3]
  rw [e4, Int.add_mul_emod_self_left]
  exact Int.emod_eq_of_lt (by omega) (by omega)
theorem part_step (x : Int) (i : Nat) : prt x i (i / 64) = prt x (i + 1) (i / 64) * 2 + bit x i := by
  unfold prt bit
  have h1 : max i (64 * (i / 64)) = i := by omega
  have h2 : max (i + 1) (64 * (i / 64)) = i + 1 := by omega
  have h3 : 64 * (i / 64 + 1) - i = (64 * (i / 64 + 1) - (i + 1)) + 1 := by omega
  rw [h1, h2, h3, Int.pow_succ, mod_double _ _ (p2_pos _), div_succ]
theorem part_other (x : Int) {i j : Nat} (h : j ≠ i / 64) : prt x i j = prt x (i + 1) j := by
  unfold prt
  by_cases hj : j < i / 64
  · have e1 : 64 * (j + 1) - max i (64 * j) = 0 := by omega
    have e2 : 64 * (j + 1) - max (i + 1) (64 * j) = 0 := by omega
    rw [e1, e2, Int.pow_zero, Int.emod_one, Int.emod_one]
  · have e1 : max i (64 * j) = 64 * j := by omega
    have e2 : max (i + 1) (64 * j) = 64 * j := by omega
    rw [e1, e2]
theorem part_zero (x : Int) (j : Nat) : prt x 0 j = limb x j := by
  unfold prt limb
  have e1 : max 0 (64 * j) = 64 * j := by omega
  rw [e1]
  congr 2; omega
theorem part_top (x : Int) {j : Nat} (hj : j < 8) : prt x 512 j = 0 := by
  unfold prt
  have e : 64 * (j + 1) - max 512 (64 * j) = 0 := by omega
  rw [e, Int.pow_zero, Int.emod_one]
theorem part_range (x : Int) (m j : Nat) : 0 ≤ prt x m j ∧ prt x m j < 18446744073709551616 := by
  unfold prt
  have h1 : (2 : Int) ^ (64 * (j + 1) - max m (64 * j)) ≤ 2 ^ 64 := p2_mono (by omega)
  have e : (2 : Int) ^ 64 = 18446744073709551616 := by decide
  have h2 := p2_pos (64 * (j + 1) - max m (64 * j))
  have h3 := Int.emod_lt_of_pos (x / 2 ^ max m (64 * j)) h2
  have h4 := Int.emod_nonneg (x / 2 ^ max m (64 * j)) (b := 2 ^ (64 * (j + 1) - max m (64 * j))) (by omega)
  omega
/-- It has room in eight words. -/
def fits (x : Int) : Prop := ∃ k : Nat, k ≤ 511 ∧ -2 ^ k ≤ x ∧ x < 2 ^ k
theorem fits_bit {x : Int} (h : fits x) {i : Nat} (hi : 511 ≤ i) : bit x i = sbit x := by
  obtain ⟨k, hk, h0, h1⟩ := h
  exact bit_high h0 h1 (by omega)
theorem fits_top {x : Int} (h : fits x) : limb x 7 / 9223372036854775808 = sbit x := by
  have h1 := limb_bit x 511
  have h2 := limb_range x 7
  rw [fits_bit h (by omega)] at h1
  have e : (2 : Int) ^ (511 % 64) = 9223372036854775808 := by decide
  rw [e] at h1
  have e2 : 511 / 64 = 7 := by decide
  rw [e2] at h1
  have : limb x 7 / 9223372036854775808 < 2 := by omega
  omega
theorem sbit_neg {x : Int} (h : x < 0) : sbit x = 1 := if_pos h
theorem sbit_pos {x : Int} (h : ¬ x < 0) : sbit x = 0 := if_neg h
theorem fits_of {x : Int} (k : Nat) (hk : k ≤ 511) (h0 : -2 ^ k ≤ x) (h1 : x < 2 ^ k) : fits x := ⟨k, hk, h0, h1⟩
theorem fits_neg {x : Int} (h : ∃ k : Nat, k ≤ 510 ∧ -2 ^ k ≤ x ∧ x < 2 ^ k) : fits (-x) := by
  obtain ⟨k, hk, h0, h1⟩ := h
  have := p2_mono (i := k) (j := k + 1) (by omega)
  have e : (2 : Int) ^ (k + 1) = 2 ^ k * 2 := Int.pow_succ ..
  have := p2_pos k
  exact ⟨k + 1, by omega, by omega, by omega⟩
/-- Bits that are all 0 are 0's. -/
theorem bit_zero_of {x : Int} {k : Nat} (h0 : 0 ≤ x) (h1 : x < 2 ^ k) (h : ∀ i, i < k → bit x i = 0) : x = 0 := by
  induction k generalizing x with
  | zero => rw [Int.pow_zero] at h1; omega
  | succ k ih =>
    have hb := h 0 (by omega)
    have e0 : bit x 0 = x % 2 := by unfold bit; rw [div_zero']
    have e1 : (2 : Int) ^ (k + 1) = 2 ^ k * 2 := Int.pow_succ ..
    have := ih (x := x / 2) (by omega) (by omega) (fun i hi => by
      have := h (i + 1) (by omega)
      unfold bit at this ⊢
      rw [Int.pow_succ, Int.mul_comm, ← Int.ediv_ediv_of_nonneg (by omega)] at this
      exact this)
    omega
end Go.NP
