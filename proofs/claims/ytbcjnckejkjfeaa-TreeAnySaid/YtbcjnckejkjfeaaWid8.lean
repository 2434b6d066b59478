/- Integers of 512 bits as eight words: what the words of small numbers are. No condition. -/
import Derived.Test.YtbcjnckejkjfeaaWid7
namespace Go.Proofs.Ytbcjnckejkjfeaa
set_option linter.unusedVariables false
set_option linter.unusedSimpArgs false
open Go.RowKit Go.NP
def i63 (n : Int) : Prop := -9223372036854775808 ≤ n ∧ n < 9223372036854775808
theorem lo_eq (n : Int) : lo n = n % 18446744073709551616 := IntKind.wrap_u64 n
theorem sg_pos {n : Int} (h : i63 n) (h0 : 0 ≤ n) : sg n = 0 := by
  obtain ⟨h1, h2⟩ := h
  unfold sg
  rw [IntKind.wrap_u64, show n / 9223372036854775808 = 0 by omega]; rfl
theorem sg_neg {n : Int} (h : i63 n) (h0 : n < 0) : sg n = 18446744073709551615 := by
  obtain ⟨h1, h2⟩ := h
  unfold sg
  rw [IntKind.wrap_u64, show n / 9223372036854775808 = -1 by omega]; rfl
theorem of8_pos {n : Int} (h : i63 n) (h0 : 0 ≤ n) : of8 n = one8 n := by
  unfold of8 one8
  rw [sg_pos h h0, lo_eq, show n % 18446744073709551616 = n by obtain ⟨h1, h2⟩ := h; omega]
theorem topB_pos {n : Int} (h : i63 n) (h0 : 0 ≤ n) : topB (of8 n).h = false := by
  show topB (sg n) = false
  rw [sg_pos h h0]; rfl
theorem topB_neg {n : Int} (h : i63 n) (h0 : n < 0) : topB (of8 n).h = true := by
  show topB (sg n) = true
  rw [sg_neg h h0]; rfl
theorem lo_is (n : Int) : isW (lo n) := by rw [lo_eq]; unfold isW; omega
theorem sg_is (n : Int) : isW (sg n) := by unfold sg; rw [IntKind.wrap_u64]; unfold isW; omega
theorem of8_ok (n : Int) : (of8 n).ok := ⟨lo_is n, sg_is n, sg_is n, sg_is n, sg_is n, sg_is n, sg_is n, sg_is n⟩
theorem isWm : isW 18446744073709551615 := by unfold isW; omega
/-- 0 less a number of one word. -/
theorem minus_one {m : Int} (h0 : 0 ≤ m) (h1 : m < 9223372036854775808) : minus8 (one8 m) = of8 (-m) := by
  have w0 : isW m := ⟨h0, by omega⟩
  unfold minus8 plus8 not8 one8 z8 k7 k6 k5 k4 k3 k2 k1
  simp only [nt_eq w0, nt_eq isW0]
  unfold of8
  by_cases hm : m = 0
  · subst hm
    rw [sg_pos (n := -0) ⟨by decide, by decide⟩ (by decide), lo_eq]
    rfl
  · have hs := sg_neg (n := -m) ⟨by omega, by omega⟩ (by omega)
    rw [hs, lo_eq]
    have c1 : c64 (18446744073709551615 - m) 0 1 = 0 := by unfold c64; omega
    have c2 : c64 (18446744073709551615 - 0) 0 0 = 0 := by unfold c64; decide
    have e1 : s64 (18446744073709551615 - m) 0 1 = -m % 18446744073709551616 := by unfold s64; omega
    have e2 : s64 (18446744073709551615 - 0) 0 0 = 18446744073709551615 := by unfold s64; decide
    simp only [c1, c2, e1, e2]
theorem minus_of {n : Int} (h : i63 n) (h0 : n < 0) : minus8 (of8 n) = one8 (-n) := by
  obtain ⟨h1, h2⟩ := h
  unfold minus8 plus8 not8 of8 one8 z8 k7 k6 k5 k4 k3 k2 k1
  rw [sg_neg ⟨h1, h2⟩ h0]
  simp only [nt_eq (lo_is n), nt_eq isWm]
  rw [lo_eq, show n % 18446744073709551616 = n + 18446744073709551616 by omega]
  have c1 : c64 (18446744073709551615 - (n + 18446744073709551616)) 0 1 = 0 := by unfold c64; omega
  have c2 : c64 (18446744073709551615 - 18446744073709551615) 0 0 = 0 := by unfold c64; decide
  have e1 : s64 (18446744073709551615 - (n + 18446744073709551616)) 0 1 = -n := by unfold s64; omega
  have e2 : s64 (18446744073709551615 - 18446744073709551615) 0 0 = 0 := by unfold s64; decide
  simp only [c1, c2, e1, e2]
def mag (n : Int) : Int := if n < 0 then -n else n
theorem size_of {n : Int} (h : i63 n) : size8 (of8 n) = one8 (mag n) := by
  unfold size8 mag
  by_cases h0 : n < 0
  · rw [topB_neg h h0, if_pos rfl, if_pos h0]; exact minus_of h h0
  · rw [topB_pos h (by omega), if_neg (by simp), if_neg h0]; exact of8_pos h (by omega)
theorem mag_mul {a b : Int} (ha : -2147483648 ≤ a ∧ a ≤ 2147483648) (hb : -2147483648 ≤ b ∧ b ≤ 2147483648) :
    0 ≤ mag a * mag b ∧ mag a * mag b ≤ 4611686018427387904 ∧ a * b = (if (decide (a < 0) != decide (b < 0)) = true then -(mag a * mag b) else mag a * mag b) := by
  have ma : 0 ≤ mag a ∧ mag a ≤ 2147483648 := by unfold mag; split <;> omega
  have mb : 0 ≤ mag b ∧ mag b ≤ 2147483648 := by unfold mag; split <;> omega
  refine ⟨Int.mul_nonneg ma.1 mb.1, ?_, ?_⟩
  · have : mag a * mag b ≤ 2147483648 * 2147483648 := Int.mul_le_mul ma.2 mb.2 mb.1 (by decide)
    omega
  · unfold mag
    by_cases h1 : a < 0 <;> by_cases h2 : b < 0 <;> simp [h1, h2, Int.neg_mul, Int.mul_neg]
theorem topB_of {n : Int} (h : i63 n) : topB (of8 n).h = decide (n < 0) := by
  by_cases h0 : n < 0
  · rw [topB_neg h h0, decide_eq_true h0]
  · rw [topB_pos h (by omega), decide_eq_false h0]
theorem sgn_of {m : Int} (h0 : 0 ≤ m) (h1 : m ≤ 4611686018427387904) (s : Bool) : sgn8 (one8 m) s = of8 (if s = true then -m else m) ∧ (sgn8 (one8 m) s = z8 ∨ topB (sgn8 (one8 m) s).h = s) := by
  cases s with
  | false =>
    have e : sgn8 (one8 m) false = one8 m := rfl
    rw [e]
    refine ⟨by rw [if_neg (by simp)]; exact (of8_pos ⟨by omega, by omega⟩ h0).symm, .inr rfl⟩
  | true =>
    have e : sgn8 (one8 m) true = minus8 (one8 m) := rfl
    rw [e, if_pos rfl, minus_one h0 (by omega)]
    refine ⟨rfl, ?_⟩
    by_cases hm : m = 0
    · subst hm; exact .inl (by unfold of8 z8; rw [sg_pos (n := -0) ⟨by decide, by decide⟩ (by decide), lo_eq]; rfl)
    · exact .inr (topB_neg ⟨by omega, by omega⟩ (by omega))
/-- The product of two small numbers. -/
theorem mulSC (a b : Int) (ha : -2147483648 ≤ a ∧ a ≤ 2147483648) (hb : -2147483648 ≤ b ∧ b ≤ 2147483648) (w : World) :
    RetB Try.prog 72 #[.agg #[.int .u64 (of8 a).a, .int .u64 (of8 a).b, .int .u64 (of8 a).c, .int .u64 (of8 a).d, .int .u64 (of8 a).e, .int .u64 (of8 a).f, .int .u64 (of8 a).g, .int .u64 (of8 a).h], .agg #[.int .u64 (of8 b).a, .int .u64 (of8 b).b, .int .u64 (of8 b).c, .int .u64 (of8 b).d, .int .u64 (of8 b).e, .int .u64 (of8 b).f, .int .u64 (of8 b).g, .int .u64 (of8 b).h]] w (.tuple #[.agg #[.int .u64 (of8 (a * b)).a, .int .u64 (of8 (a * b)).b, .int .u64 (of8 (a * b)).c, .int .u64 (of8 (a * b)).d, .int .u64 (of8 (a * b)).e, .int .u64 (of8 (a * b)).f, .int .u64 (of8 (a * b)).g, .int .u64 (of8 (a * b)).h], .bool true]) := by
  have ia : i63 a := ⟨by omega, by omega⟩
  have ib : i63 b := ⟨by omega, by omega⟩
  obtain ⟨m0, m1, hm⟩ := mag_mul ha hb
  have wa : isW (mag a) := by unfold mag isW; split <;> omega
  have wb : isW (mag b) := by unfold mag isW; split <;> omega
  obtain ⟨e1, e2⟩ := mul64_eq wa wb
  have e3 : two8 (loR (mag a) (mag b)) (hiR (mag a) (mag b)) = one8 (mag a * mag b) := by
    unfold two8 one8
    rw [e1, e2]
    rw [show mag a * mag b % 18446744073709551616 = mag a * mag b by omega, show mag a * mag b / 18446744073709551616 = 0 by omega]
  have es : (topB (of8 a).h != topB (of8 b).h) = (decide (a < 0) != decide (b < 0)) := by rw [topB_of ia, topB_of ib]
  obtain ⟨g1, g2⟩ := sgn_of m0 m1 (decide (a < 0) != decide (b < 0))
  have := mulC (of8 a) (of8 b) (of8_ok a) (of8_ok b) (mag a) (mag b) (size_of ia) (size_of ib) wa wb (by rw [e3, es]; exact g2) w
  rw [e3, es, g1, ← hm] at this
  exact this
theorem cmp_of {a b : Int} (ha : i63 a) (hb : i63 b) : cmp8 (of8 a) (of8 b) = if a = b then 0 else if a < b then -1 else 1 := by
  unfold cmp8
  rw [topB_of ha, topB_of hb]
  obtain ⟨a0, a1⟩ := ha
  obtain ⟨b0, b1⟩ := hb
  by_cases h1 : a < 0 <;> by_cases h2 : b < 0
  · simp only [h1, h2, decide_true, if_true]
    unfold above8 of8
    rw [sg_neg ⟨a0, a1⟩ h1, sg_neg ⟨b0, b1⟩ h2]
    simp only [step8_eq]
    rw [lo_eq, lo_eq]
    unfold step8
    by_cases h : a = b
    · rw [if_pos h, if_pos (by rw [h])]
    · rw [if_neg h, if_neg (by omega)]
      by_cases h' : a < b
      · rw [if_pos h', if_pos (by omega)]
      · rw [if_neg h', if_neg (by omega)]
  · simp only [h1, h2, decide_true, decide_false, Bool.true_eq_false, if_false, if_true]
    rw [if_neg (by omega), if_pos (by omega)]
  · simp only [h1, h2, decide_true, decide_false, Bool.false_eq_true, if_false]
    rw [if_neg (by omega), if_neg (by omega)]
  · simp only [h1, h2, decide_false, if_true]
    unfold above8
    rw [of8_pos ⟨a0, a1⟩ (by omega), of8_pos ⟨b0, b1⟩ (by omega)]
    unfold one8
    simp only [step8_eq]
    unfold step8
    rfl
theorem cmpSC (a b : Int) (ha : i63 a) (hb : i63 b) (w : World) : RetB Try.prog 74 #[.agg #[.int .u64 (of8 a).a, .int .u64 (of8 a).b, .int .u64 (of8 a).c, .int .u64 (of8 a).d, .int .u64 (of8 a).e, .int .u64 (of8 a).f, .int .u64 (of8 a).g, .int .u64 (of8 a).h], .agg #[.int .u64 (of8 b).a, .int .u64 (of8 b).b, .int .u64 (of8 b).c, .int .u64 (of8 b).d, .int .u64 (of8 b).e, .int .u64 (of8 b).f, .int .u64 (of8 b).g, .int .u64 (of8 b).h]] w (.int .i64 (if a = b then 0 else if a < b then -1 else 1)) :=
  (cmpC _ _ w).eq (by rw [cmp_of ha hb])
end Go.Proofs.Ytbcjnckejkjfeaa
