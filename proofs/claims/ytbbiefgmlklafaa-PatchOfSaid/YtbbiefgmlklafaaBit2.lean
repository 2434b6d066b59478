/- Bits of products and differences, in plain numbers. No condition. -/
import Derived.Test.YtbbiefgmlklafaaBit
namespace Go.NP
theorem mod_succ (y : Int) (i : Nat) : y % 2 ^ (i + 1) = y % 2 ^ i + bit y i * 2 ^ i := by
  have hp := p2_pos i
  have e1 : y = 2 ^ i * (y / 2 ^ i) + y % 2 ^ i := (Int.mul_ediv_add_emod _ _).symm
  have e2 : y / 2 ^ i = 2 * (y / 2 ^ i / 2) + bit y i := by unfold bit; omega
  have b1 := Int.emod_nonneg y (b := 2 ^ i) (by omega)
  have b2 := Int.emod_lt_of_pos y hp
  have b3 := bit01 y i
  have e3 : y = (y % 2 ^ i + bit y i * 2 ^ i) + 2 ^ (i + 1) * (y / 2 ^ i / 2) := by
    have e4 : 2 ^ i * (y / 2 ^ i) = 2 ^ i * (2 * (y / 2 ^ i / 2)) + 2 ^ i * bit y i := by rw [← Int.mul_add, ← e2]
    have e5 : (2 : Int) ^ (i + 1) * (y / 2 ^ i / 2) = 2 ^ i * (2 * (y / 2 ^ i / 2)) := by rw [Int.pow_succ, Int.mul_assoc]
    have e6 : bit y i * 2 ^ i = 2 ^ i * bit y i := Int.mul_comm ..
    omega
  have hb : bit y i * 2 ^ i ≤ 2 ^ i := by
    have : bit y i * 2 ^ i ≤ 1 * 2 ^ i := Int.mul_le_mul_of_nonneg_right b3.2 (by omega)
    omega
  have hb0 : 0 ≤ bit y i * 2 ^ i := Int.mul_nonneg b3.1 (by omega)
  have e7 : (2 : Int) ^ (i + 1) = 2 ^ i * 2 := Int.pow_succ ..
  have e8 : y % 2 ^ (i + 1) = ((y % 2 ^ i + bit y i * 2 ^ i) + 2 ^ (i + 1) * (y / 2 ^ i / 2)) % 2 ^ (i + 1) := by rw [← e3]
  rw [e8, Int.add_mul_emod_self_left]
  refine Int.emod_eq_of_lt (by omega) ?_
  by_cases h : bit y i = 0
  · rw [h]; omega
  · have : bit y i = 1 := by omega
    rw [this]; omega
/-- What is carried into place i + k when x is added to s from place i on. -/
def mcarry (s x : Int) (i k : Nat) : Int := (s + x * 2 ^ i) / 2 ^ (i + k) - s / 2 ^ (i + k) - x / 2 ^ k
theorem mcarry_zero (s x : Int) (i : Nat) : mcarry s x i 0 = 0 := by
  unfold mcarry
  rw [Nat.add_zero, Int.add_mul_ediv_right _ _ (by have := p2_pos i; omega), div_zero']
  omega
theorem mcarry_succ (s x : Int) (i k : Nat) : mcarry s x i (k + 1) = (bit s (i + k) + mcarry s x i k + bit x k) / 2 := by
  unfold mcarry bit
  rw [← Nat.add_assoc]
  simp only [div_succ]
  omega
theorem bit_madd (s x : Int) (i k : Nat) : bit (s + x * 2 ^ i) (i + k) = (bit s (i + k) + mcarry s x i k + bit x k) % 2 := by
  unfold mcarry bit; omega
theorem mcarry01 (s x : Int) (i : Nat) : ∀ k, 0 ≤ mcarry s x i k ∧ mcarry s x i k ≤ 1
  | 0 => by rw [mcarry_zero]; omega
  | k + 1 => by
    have h1 := mcarry01 s x i k; have h2 := bit01 s (i + k); have h3 := bit01 x k
    rw [mcarry_succ]; omega
/-- Where nothing is carried any more the higher places stay. -/
theorem mcarry_end {s x : Int} {i k : Nat} (h0 : mcarry s x i k = 0) (hx : x / 2 ^ k = 0) {j : Nat} (hj : i + k ≤ j) : bit (s + x * 2 ^ i) j = bit s j := by
  have e : (s + x * 2 ^ i) / 2 ^ (i + k) = s / 2 ^ (i + k) := by unfold mcarry at h0; omega
  obtain ⟨d, rfl⟩ : ∃ d, j = i + k + d := ⟨j - (i + k), by omega⟩
  unfold bit
  rw [Int.pow_add, ← Int.ediv_ediv_of_nonneg (Int.le_of_lt (p2_pos _)), ← Int.ediv_ediv_of_nonneg (Int.le_of_lt (p2_pos _)), e]
theorem mcarry_room {s x : Int} {i k n : Nat} (hs : 0 ≤ s) (hx : 0 ≤ x) (hn : s + x * 2 ^ i < 2 ^ n) (hc : 0 < mcarry s x i k) : i + k < n := by
  rcases Nat.lt_or_ge (i + k) n with h | h
  · exact h
  · exfalso
    have hm := p2_mono h
    have h1 : (s + x * 2 ^ i) / 2 ^ (i + k) = 0 := Int.ediv_eq_zero_of_lt (by have := Int.mul_nonneg hx (Int.le_of_lt (p2_pos i)); omega) (by omega)
    have h2 : 0 ≤ s / 2 ^ (i + k) := Int.ediv_nonneg hs (Int.le_of_lt (p2_pos _))
    have h3 : 0 ≤ x / 2 ^ k := Int.ediv_nonneg hx (Int.le_of_lt (p2_pos _))
    unfold mcarry at hc; omega
/-- A sum of which the places up to m have been reckoned. -/
def mixed (s t : Int) (m : Nat) (j : Nat) : Int := if j < m then bit t j else bit s j
def mixL (s t : Int) (n m : Nat) : List Int := (List.range n).map (mixed s t m)
theorem mixL_len (s t : Int) (n m : Nat) : (mixL s t n m).length = n := by simp [mixL]
theorem mixL_get (s t : Int) {n m i : Nat} (hi : i < n) : (mixL s t n m)[i]? = some (mixed s t m i) := by
  unfold mixL; rw [List.getElem?_map, List.getElem?_range hi]; rfl
theorem mixL_set (s t : Int) {n m : Nat} (hm : m < n) : (mixL s t n m).set m (bit t m) = mixL s t n (m + 1) := by
  apply List.ext_getElem?
  intro i
  rw [List.getElem?_set]
  by_cases hi : i < n
  · rw [mixL_get _ _ hi, mixL_get _ _ hi, mixL_len]
    unfold mixed
    by_cases h : m = i
    · subst h; rw [if_pos rfl, if_pos hm, if_pos (by omega)]
    · rw [if_neg h]
      by_cases h2 : i < m
      · rw [if_pos h2, if_pos (by omega)]
      · rw [if_neg h2, if_neg (by omega)]
  · rw [if_neg (by omega), List.getElem?_eq_none (by rw [mixL_len]; omega), List.getElem?_eq_none (by rw [mixL_len]; omega)]
theorem bitsL_ext {s t : Int} {n : Nat} (h : ∀ i, i < n → bit s i = bit t i) : bitsL s n = bitsL t n := by
  unfold bitsL; apply List.map_congr_left; intro i hi; exact h i (List.mem_range.1 hi)
theorem mixL_start (s t : Int) (n : Nat) {m : Nat} (h : ∀ j, j < m → bit t j = bit s j) : mixL s t n m = bitsL s n := by
  unfold mixL bitsL; apply List.map_congr_left; intro i _
  unfold mixed
  split
  · exact h i (by assumption)
  · rfl
theorem mixL_end (s t : Int) (n : Nat) {m : Nat} (h : ∀ j, m ≤ j → bit t j = bit s j) : mixL s t n m = bitsL t n := by
  unfold mixL bitsL; apply List.map_congr_left; intro i _
  unfold mixed
  split
  · rfl
  · exact (h i (by omega)).symm
/-- Places below where the adding begins stay. -/
theorem bit_low (s x : Int) {i j : Nat} (h : j < i) : bit (s + x * 2 ^ i) j = bit s j := by
  have e : (2 : Int) ^ i = 2 ^ (i - j - 1) * 2 * 2 ^ j := by
    rw [← Int.pow_succ, ← Int.pow_add]; congr 1; omega
  unfold bit
  rw [e, ← Int.mul_assoc, Int.add_mul_ediv_right _ _ (by have := p2_pos j; omega), ← Int.mul_assoc]
  omega
theorem mul_mod_step (x y : Int) (i : Nat) : x * (y % 2 ^ (i + 1)) = x * (y % 2 ^ i) + x * bit y i * 2 ^ i := by
  rw [mod_succ, Int.mul_add, Int.mul_assoc]
theorem mul_mod_le {x y : Int} (hx : 0 ≤ x) (hy : 0 ≤ y) (i : Nat) : x * (y % 2 ^ i) ≤ x * y := by
  refine Int.mul_le_mul_of_nonneg_left ?_ hx
  have e1 : y = 2 ^ i * (y / 2 ^ i) + y % 2 ^ i := (Int.mul_ediv_add_emod _ _).symm
  have := Int.mul_nonneg (Int.le_of_lt (p2_pos i)) (Int.ediv_nonneg hy (Int.le_of_lt (p2_pos i)))
  omega
theorem mod_all {y : Int} {n : Nat} (h0 : 0 ≤ y) (h1 : y < 2 ^ n) : y % 2 ^ n = y := Int.emod_eq_of_lt h0 h1
theorem mod_none (y : Int) : y % 2 ^ 0 = 0 := by rw [Int.pow_zero, Int.emod_one]
theorem bits_zero (n : Nat) : bitsL 0 n = List.replicate n 0 := by
  unfold bitsL
  apply List.ext_getElem?
  intro i
  by_cases hi : i < n
  · rw [List.getElem?_map, List.getElem?_range hi, List.getElem?_replicate, if_pos hi]; simp [bit]
  · rw [List.getElem?_eq_none (by simp; omega), List.getElem?_eq_none (by simp; omega)]
/-- Bits from n on that are all 0 tell a size. -/
theorem lt_of_bits {x : Int} {n m : Nat} (h0 : 0 ≤ x) (h1 : x < 2 ^ m) (h : ∀ i, n ≤ i → i < m → bit x i = 0) : x / 2 ^ n = 0 := by
  rcases Nat.lt_or_ge n m with hn | hn
  · have hp := p2_pos n
    have e : (2 : Int) ^ m = 2 ^ (m - n) * 2 ^ n := by rw [← Int.pow_add]; congr 1; omega
    refine bit_zero_of (k := m - n) (Int.ediv_nonneg h0 (Int.le_of_lt hp)) ?_ fun i hi => ?_
    · rw [e] at h1
      exact Int.ediv_lt_of_lt_mul hp h1
    · have := h (n + i) (by omega) (by omega)
      unfold bit at this ⊢
      rw [Int.ediv_ediv_of_nonneg (Int.le_of_lt hp), ← Int.pow_add]
      exact this
  · have hm := p2_mono hn
    exact div_small h0 (by omega)
/-- Numbers of moderate size. -/
def mid (x : Int) : Prop := -2 ^ 250 ≤ x ∧ x ≤ 2 ^ 250
theorem mid_fits {x : Int} (h : mid x) : fits x := by
  obtain ⟨h0, h1⟩ := h
  have := p2_mono (i := 250) (j := 251) (by omega)
  have e : (2 : Int) ^ 251 = 2 ^ 250 * 2 := Int.pow_succ ..
  have := p2_pos 250
  exact ⟨251, by omega, by omega, by omega⟩
theorem mid_abs {x : Int} (h : mid x) : 0 ≤ (x.natAbs : Int) ∧ (x.natAbs : Int) ≤ 2 ^ 250 := by
  obtain ⟨h0, h1⟩ := h; omega
theorem mid_mul {x y : Int} (hx : mid x) (hy : mid y) : (x.natAbs : Int) * (y.natAbs : Int) ≤ 2 ^ 500 := by
  have h1 := mid_abs hx; have h2 := mid_abs hy
  have : (x.natAbs : Int) * (y.natAbs : Int) ≤ 2 ^ 250 * 2 ^ 250 := Int.mul_le_mul h1.2 h2.2 h2.1 (Int.le_of_lt (p2_pos _))
  rw [← Int.pow_add] at this
  exact this
theorem abs_mul (x y : Int) : x * y = if decide (x < 0) = decide (y < 0) then (x.natAbs : Int) * (y.natAbs : Int) else -((x.natAbs : Int) * (y.natAbs : Int)) := by
  by_cases hx : x < 0 <;> by_cases hy : y < 0
  · rw [if_pos (by simp [hx, hy])]
    have e1 : (x.natAbs : Int) = -x := by omega
    have e2 : (y.natAbs : Int) = -y := by omega
    rw [e1, e2, Int.neg_mul_neg]
  · rw [if_neg (by simp [hx, hy])]
    have e1 : (x.natAbs : Int) = -x := by omega
    have e2 : (y.natAbs : Int) = y := by omega
    rw [e1, e2, Int.neg_mul, Int.neg_neg]
  · rw [if_neg (by simp [hx, hy])]
    have e1 : (x.natAbs : Int) = x := by omega
    have e2 : (y.natAbs : Int) = -y := by omega
    rw [e1, e2, Int.mul_neg, Int.neg_neg]
  · rw [if_pos (by simp [hx, hy])]
    have e1 : (x.natAbs : Int) = x := by omega
    have e2 : (y.natAbs : Int) = y := by omega
    rw [e1, e2]
theorem fits_mul {x y : Int} (hx : mid x) (hy : mid y) : fits (x * y) := by
  have h := mid_mul hx hy
  have h0 : 0 ≤ (x.natAbs : Int) * (y.natAbs : Int) := Int.mul_nonneg (by omega) (by omega)
  have e : (2 : Int) ^ 501 = 2 ^ 500 * 2 := Int.pow_succ ..
  have hp := p2_pos 500
  refine ⟨501, by omega, ?_, ?_⟩ <;> rw [abs_mul] <;> split <;> omega
end Go.NP
