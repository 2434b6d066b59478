/- Bits of integers, in plain numbers. No condition. The document's bits: the walks. No condition. The document's bits: the walks, second part. No condition. Bits of products and differences, in plain numbers. No condition. The document's bits: the walks, third part. No condition. The document's bits: the walks, fourth part: products. No condition. The document's sums and products of small numbers, and where a way is within a side: the walks. No condition. -/
import Derived.Below
import Derived.Test.YtbcjnckejkjfeaaGreatProg
import Derived.Test.YtbcjnckejkjfeaaGreatQab
import Derived.WalkKit
import Derived.WalkSpells
import Derived.WalkLawsBesides
import Derived.Test.YtbcjnckejkjfeaaGreatQac
import Derived.Test.YtbcjnckejkjfeaaGreatQas
import Derived.Lib.Hide
import Derived.IntWalk
import Derived.Laws.MakeOwn
namespace Go.NP
/-- A bit of an integer. -/
def bit (n : Int) (i : Nat) : Int := n / 2 ^ i % 2
theorem bit01 (n : Int) (i : Nat) : 0 ≤ bit n i ∧ bit n i ≤ 1 := by unfold bit; omega
theorem p2_pos (i : Nat) : (0 : Int) < 2 ^ i := by
  induction i with
  | zero => decide
  | succ i ih => rw [Int.pow_succ]; omega
theorem div_succ (n : Int) (i : Nat) : n / 2 ^ (i + 1) = n / 2 ^ i / 2 := by
  rw [Int.pow_succ, Int.ediv_ediv_of_nonneg (Int.le_of_lt (p2_pos i))]
theorem div_zero' (n : Int) : n / 2 ^ 0 = n := by rw [Int.pow_zero]; exact Int.ediv_one n
/-- What is carried into place i of a sum. -/
def carry (a b : Int) (i : Nat) : Int := (a + b) / 2 ^ i - a / 2 ^ i - b / 2 ^ i
theorem carry_zero (a b : Int) : carry a b 0 = 0 := by unfold carry; simp only [div_zero']; omega
theorem carry_succ (a b : Int) (i : Nat) : carry a b (i + 1) = (bit a i + bit b i + carry a b i) / 2 := by
  unfold carry bit; simp only [div_succ]; omega
theorem bit_add (a b : Int) (i : Nat) : bit (a + b) i = (bit a i + bit b i + carry a b i) % 2 := by
  unfold carry bit; omega
theorem carry01 (a b : Int) : ∀ i, 0 ≤ carry a b i ∧ carry a b i ≤ 1
  | 0 => by rw [carry_zero]; omega
  | i + 1 => by
    have h1 := carry01 a b i; have h2 := bit01 a i; have h3 := bit01 b i
    rw [carry_succ]; omega
/-- What is carried into place i of less than 0 by as much. -/
def borrow (a : Int) (i : Nat) : Int := (-a) / 2 ^ i + a / 2 ^ i + 1
theorem borrow_zero (a : Int) : borrow a 0 = 1 := by unfold borrow; simp only [div_zero']; omega
theorem borrow_succ (a : Int) (i : Nat) : borrow a (i + 1) = (1 - bit a i + borrow a i) / 2 := by
  unfold borrow bit; simp only [div_succ]; omega
theorem bit_neg (a : Int) (i : Nat) : bit (-a) i = (1 - bit a i + borrow a i) % 2 := by
  unfold borrow bit; omega
theorem borrow01 (a : Int) : ∀ i, 0 ≤ borrow a i ∧ borrow a i ≤ 1
  | 0 => by rw [borrow_zero]; omega
  | i + 1 => by
    have h1 := borrow01 a i; have h2 := bit01 a i
    rw [borrow_succ]; omega
/-- A row of n numbers, of which the first k have been written. -/
def fillAt (f : Nat → Int) (n k : Nat) : List Int := (List.range n).map fun i => if i < k then f i else 0
theorem fillAt_len (f : Nat → Int) (n k : Nat) : (fillAt f n k).length = n := by simp [fillAt]
theorem fillAt_get (f : Nat → Int) {n : Nat} (k : Nat) {i : Nat} (hi : i < n) : (fillAt f n k)[i]? = some (if i < k then f i else 0) := by
  unfold fillAt; rw [List.getElem?_map, List.getElem?_range hi]; rfl
theorem fillAt_zero (f : Nat → Int) (n : Nat) : fillAt f n 0 = List.replicate n 0 := by
  apply List.ext_getElem?
  intro i
  by_cases hi : i < n
  · rw [fillAt_get f 0 hi, List.getElem?_replicate, if_pos hi, if_neg (by omega)]
  · rw [List.getElem?_eq_none (by rw [fillAt_len]; omega), List.getElem?_eq_none (by simp; omega)]
theorem fillAt_all (f : Nat → Int) (n : Nat) : fillAt f n n = (List.range n).map f := by
  apply List.ext_getElem?
  intro i
  by_cases hi : i < n
  · rw [fillAt_get f n hi, if_pos hi, List.getElem?_map, List.getElem?_range hi]; rfl
  · rw [List.getElem?_eq_none (by rw [fillAt_len]; omega), List.getElem?_eq_none (by simp; omega)]
theorem fillAt_set (f : Nat → Int) {n k : Nat} (hk : k < n) : (fillAt f n k).set k (f k) = fillAt f n (k + 1) := by
  apply List.ext_getElem?
  intro i
  rw [List.getElem?_set]
  by_cases hi : i < n
  · rw [fillAt_get f _ hi, fillAt_get f _ hi, fillAt_len]
    by_cases hik : k = i
    · subst hik; rw [if_pos rfl, if_pos hk, if_pos (by omega)]
    · rw [if_neg hik]
      by_cases h2 : i < k
      · rw [if_pos h2, if_pos (by omega)]
      · rw [if_neg h2, if_neg (by omega)]
  · rw [if_neg (by omega), List.getElem?_eq_none (by rw [fillAt_len]; omega), List.getElem?_eq_none (by rw [fillAt_len]; omega)]
/-- The bits of an integer. -/
def bitsL (n : Int) (k : Nat) : List Int := (List.range k).map (bit n)
theorem bitsL_len (n : Int) (k : Nat) : (bitsL n k).length = k := by simp [bitsL]
theorem bitsL_get (n : Int) {k i : Nat} (hi : i < k) : (bitsL n k)[i]? = some (bit n i) := by
  unfold bitsL; rw [List.getElem?_map, List.getElem?_range hi]; rfl
/-- A word of an integer. -/
def limb (n : Int) (j : Nat) : Int := n / 2 ^ (64 * j) % 2 ^ 64
theorem limb_range (n : Int) (j : Nat) : 0 ≤ limb n j ∧ limb n j < 18446744073709551616 := by
  unfold limb
  have e : (2 : Int) ^ 64 = 18446744073709551616 := by decide
  rw [e]; omega
theorem mod_div_bit (m : Int) {j : Nat} (hj : j < 64) : m % 2 ^ 64 / 2 ^ j % 2 = m / 2 ^ j % 2 := by
  have h1 : m % 2 ^ 64 = m - m / 2 ^ 64 * 2 ^ 64 := by rw [Int.emod_def, Int.mul_comm]
  have h2 : (2 : Int) ^ 64 = 2 ^ (63 - j) * 2 * 2 ^ j := by
    rw [← Int.pow_succ, ← Int.pow_add]; congr 1; omega
  have h3 : m - m / 2 ^ 64 * 2 ^ 64 = m + -(m / 2 ^ 64 * (2 ^ (63 - j) * 2)) * 2 ^ j := by
    rw [Int.neg_mul, Int.mul_assoc, ← h2]; omega
  rw [h1, h3, Int.add_mul_ediv_right _ _ (by have := p2_pos j; omega)]
  have h4 : m / 2 ^ 64 * (2 ^ (63 - j) * 2) = m / 2 ^ 64 * 2 ^ (63 - j) * 2 := by rw [Int.mul_assoc]
  rw [h4]
  omega
theorem limb_bit (n : Int) (k : Nat) : limb n (k / 64) / 2 ^ (k % 64) % 2 = bit n k := by
  unfold limb bit
  rw [mod_div_bit _ (Nat.mod_lt _ (by omega)), Int.ediv_ediv_of_nonneg (Int.le_of_lt (p2_pos _)), ← Int.pow_add]
  congr 3; omega
/-- Beyond its size an integer's bits are all alike. -/
theorem div_small {n : Int} {k : Nat} (h0 : 0 ≤ n) (h1 : n < 2 ^ k) : n / 2 ^ k = 0 := Int.ediv_eq_zero_of_lt h0 h1
theorem div_neg {n : Int} {k : Nat} (h0 : n < 0) (h1 : -2 ^ k ≤ n) : n / 2 ^ k = -1 := by
  have hp := p2_pos k
  have h2 : n + 1 * 2 ^ k = n + 2 ^ k := by omega
  have h3 : (n + 1 * 2 ^ k) / 2 ^ k = n / 2 ^ k + 1 := Int.add_mul_ediv_right _ _ (by omega)
  have h4 : (n + 2 ^ k) / 2 ^ k = 0 := Int.ediv_eq_zero_of_lt (by omega) (by omega)
  rw [h2, h4] at h3; omega
theorem p2_mono {i j : Nat} (h : i ≤ j) : (2 : Int) ^ i ≤ 2 ^ j := by
  induction h with
  | refl => exact Int.le_refl _
  | step _ ih => rw [Int.pow_succ]; have := p2_pos i; omega
def sbit (n : Int) : Int := if n < 0 then 1 else 0
theorem bit_high {n : Int} {k i : Nat} (h0 : -2 ^ k ≤ n) (h1 : n < 2 ^ k) (hi : k ≤ i) : bit n i = sbit n := by
  have hm := p2_mono hi
  unfold bit sbit
  by_cases h : n < 0
  · rw [div_neg h (by omega), if_pos h]; rfl
  · rw [div_small (by omega) (by omega), if_neg h]; rfl
theorem limb_small {n : Int} (h0 : -9223372036854775808 ≤ n) (h1 : n < 9223372036854775808) {j : Nat} (hj : 0 < j) : limb n j = (n / 9223372036854775808) % 18446744073709551616 := by
  have e : (2 : Int) ^ 64 = 18446744073709551616 := by decide
  have e' : (2 : Int) ^ 63 = 9223372036854775808 := by decide
  have hm : (2 : Int) ^ 63 ≤ 2 ^ (64 * j) := p2_mono (by omega)
  unfold limb
  rw [e]
  by_cases h : n < 0
  · rw [div_neg h (by omega), show n / 9223372036854775808 = -1 by omega]
  · rw [div_small (by omega) (by omega), show n / 9223372036854775808 = 0 by omega]
/-- What has been gathered of word j of an integer, when its bits from m on have been added. -/
def prt (x : Int) (m j : Nat) : Int := x / 2 ^ (max m (64 * j)) % 2 ^ (64 * (j + 1) - max m (64 * j))
theorem mod_double (y p : Int) (hp : 0 < p) : y % (p * 2) = y / 2 % p * 2 + y % 2 := by
  have e1 : y = 2 * (y / 2) + y % 2 := by omega
  have e2 : y / 2 = p * (y / 2 / p) + y / 2 % p := (Int.mul_ediv_add_emod _ _).symm
  have e3 : y = (y / 2 % p * 2 + y % 2) + p * 2 * (y / 2 / p) := by
    have : p * 2 * (y / 2 / p) = 2 * (p * (y / 2 / p)) := by rw [Int.mul_comm p 2, Int.mul_assoc]
    omega
  have b1 : 0 ≤ y / 2 % p := Int.emod_nonneg _ (by omega)
  have b2 : y / 2 % p < p := Int.emod_lt_of_pos _ hp
  have e4 : y % (p * 2) = ((y / 2 % p * 2 + y % 2) + p * 2 * (y / 2 / p)) % (p * 2) := by rw [← e3]
  rw [e4, Int.add_mul_emod_self_left]
  exact Int.emod_eq_of_lt (by omega) (by omega)
theorem part_step (x : Int) (i : Nat) : prt x i (i / 64) = prt x (i + 1) (i / 64) * 2 + bit x i := by
  unfold prt bit
  have h1 : max i (64 * (i / 64)) = i := by omega
  have h2 : max (i + 1) (64 * (i / 64)) = i + 1 := by omega
  have h3 : 64 * (i / 64 + 1) - i = (64 * (i / 64 + 1) - (i + 1)) + 1 := by omega
  rw [h1, h2, h3, Int.pow_succ, mod_double _ _ (p2_pos _), div_succ]
theorem part_other (x : Int) {i j : Nat} (h : j ≠ i / 64) : prt x i j = prt x (i + 1) j := by
  unfold prt
  by_cases hj : j < i / 64
  · have e1 : 64 * (j + 1) - max i (64 * j) = 0 := by omega
    have e2 : 64 * (j + 1) - max (i + 1) (64 * j) = 0 := by omega
    rw [e1, e2, Int.pow_zero, Int.emod_one, Int.emod_one]
  · have e1 : max i (64 * j) = 64 * j := by omega
    have e2 : max (i + 1) (64 * j) = 64 * j := by omega
    rw [e1, e2]
theorem part_zero (x : Int) (j : Nat) : prt x 0 j = limb x j := by
  unfold prt limb
  have e1 : max 0 (64 * j) = 64 * j := by omega
  rw [e1]
  congr 2; omega
theorem part_top (x : Int) {j : Nat} (hj : j < 8) : prt x 512 j = 0 := by
  unfold prt
  have e : 64 * (j + 1) - max 512 (64 * j) = 0 := by omega
  rw [e, Int.pow_zero, Int.emod_one]
theorem part_range (x : Int) (m j : Nat) : 0 ≤ prt x m j ∧ prt x m j < 18446744073709551616 := by
  unfold prt
  have h1 : (2 : Int) ^ (64 * (j + 1) - max m (64 * j)) ≤ 2 ^ 64 := p2_mono (by omega)
  have e : (2 : Int) ^ 64 = 18446744073709551616 := by decide
  have h2 := p2_pos (64 * (j + 1) - max m (64 * j))
  have h3 := Int.emod_lt_of_pos (x / 2 ^ max m (64 * j)) h2
  have h4 := Int.emod_nonneg (x / 2 ^ max m (64 * j)) (b := 2 ^ (64 * (j + 1) - max m (64 * j))) (by omega)
  omega
/-- It has room in eight words. -/
def fits (x : Int) : Prop := ∃ k : Nat, k ≤ 511 ∧ -2 ^ k ≤ x ∧ x < 2 ^ k
theorem fits_bit {x : Int} (h : fits x) {i : Nat} (hi : 511 ≤ i) : bit x i = sbit x := by
  obtain ⟨k, hk, h0, h1⟩ := h
  exact bit_high h0 h1 (by omega)
theorem fits_top {x : Int} (h : fits x) : limb x 7 / 9223372036854775808 = sbit x := by
  have h1 := limb_bit x 511
  have h2 := limb_range x 7
  rw [fits_bit h (by omega)] at h1
  have e : (2 : Int) ^ (511 % 64) = 9223372036854775808 := by decide
  rw [e] at h1
  have e2 : 511 / 64 = 7 := by decide
  rw [e2] at h1
  have : limb x 7 / 9223372036854775808 < 2 := by omega
  omega
theorem sbit_neg {x : Int} (h : x < 0) : sbit x = 1 := if_pos h
theorem sbit_pos {x : Int} (h : ¬ x < 0) : sbit x = 0 := if_neg h
theorem fits_of {x : Int} (k : Nat) (hk : k ≤ 511) (h0 : -2 ^ k ≤ x) (h1 : x < 2 ^ k) : fits x := ⟨k, hk, h0, h1⟩
theorem fits_neg {x : Int} (h : ∃ k : Nat, k ≤ 510 ∧ -2 ^ k ≤ x ∧ x < 2 ^ k) : fits (-x) := by
  obtain ⟨k, hk, h0, h1⟩ := h
  have := p2_mono (i := k) (j := k + 1) (by omega)
  have e : (2 : Int) ^ (k + 1) = 2 ^ k * 2 := Int.pow_succ ..
  have := p2_pos k
  exact ⟨k + 1, by omega, by omega, by omega⟩
/-- Bits that are all 0 are 0's. -/
theorem bit_zero_of {x : Int} {k : Nat} (h0 : 0 ≤ x) (h1 : x < 2 ^ k) (h : ∀ i, i < k → bit x i = 0) : x = 0 := by
  induction k generalizing x with
  | zero => rw [Int.pow_zero] at h1; omega
  | succ k ih =>
    have hb := h 0 (by omega)
    have e0 : bit x 0 = x % 2 := by unfold bit; rw [div_zero']
    have e1 : (2 : Int) ^ (k + 1) = 2 ^ k * 2 := Int.pow_succ ..
    have := ih (x := x / 2) (by omega) (by omega) (fun i hi => by
      have := h (i + 1) (by omega)
      unfold bit at this ⊢
      rw [Int.pow_succ, Int.mul_comm, ← Int.ediv_ediv_of_nonneg (by omega)] at this
      exact this)
    omega
end Go.NP
namespace Go.Proofs.YtbcjnckejkjfeaaGreat
set_option linter.unusedVariables false
set_option linter.unusedSimpArgs false
open Go.RowKit Go.NP
/-- An integer's eight words. -/
def w8 (n : Int) : L8 := ⟨limb n 0, limb n 1, limb n 2, limb n 3, limb n 4, limb n 5, limb n 6, limb n 7⟩
def iv (l : List Int) : List Value := l.map (Value.int .i64)
theorem iv_len (l : List Int) : (iv l).length = l.length := by simp [iv]
theorem iv_get {l : List Int} {i : Nat} {n : Int} (h : l[i]? = some n) : (iv l)[i]? = some (.int .i64 n) := by unfold iv; rw [List.getElem?_map, h]; rfl
theorem iv_set (l : List Int) (i : Nat) (n : Int) : (iv l).set i (.int .i64 n) = iv (l.set i n) := by unfold iv; rw [List.map_set]
theorem w8_get (n : Int) {j : Nat} (hj : j < 8) : ([.int .u64 (w8 n).a, .int .u64 (w8 n).b, .int .u64 (w8 n).c, .int .u64 (w8 n).d, .int .u64 (w8 n).e, .int .u64 (w8 n).f, .int .u64 (w8 n).g, .int .u64 (w8 n).h] : List Value)[j]? = some (.int .u64 (limb n j)) := by
  rcases j with _ | _ | _ | _ | _ | _ | _ | _ | j
  iterate 8 rfl
  omega
/-- A new row of integers. -/
def RetR (f : FuncId) (args : Array Value) (w : World) (n : Nat) (l : List Int) : Prop := RetK Tryz.prog f args w (newR w.heap.size n (iv l) 3)
theorem made_iv (n : Nat) : madeCells #[.int .i64 0] n = (iv (List.replicate n 0)).toArray := by
  unfold madeCells iv
  apply Array.ext_getElem?
  intro i
  by_cases hi : i < n
  · simp [hi, Nat.mod_one]
  · simp [hi]
theorem mk_ints (n : Nat) (hn : n ≤ 1000000) (u : World) : (Instr.makeSlice 50 (.int .i64 (n : Int)) (.int .i64 (n : Int))).run Tryz.prog u = .ok (.slice (some ⟨u.heap.size, 0, none⟩) n n) (u.alloc (.cells (iv (List.replicate n 0)).toArray 3)) := by
  have := run_makeSlice (P := Tryz.prog) u 50 3 Tryz.t3 (.int .i64 0) Tryz.underlying50 (by kernel_rfl) (by kernel_rfl) .i64 .i64 n n (by omega) (Int.le_refl _) (by show (n : Int).toNat * 1 ≤ _; omega) (by show ((8 : Nat) : Int) * n ≤ _; omega) (by omega)
  rw [← made_iv]
  simpa [show Tryz.t3.size = 1 from rfl, Value.cells] using this
theorem wr01 {n : Int} (h0 : 0 ≤ n) (h1 : n ≤ 1) : wrap64 n = n := by unfold wrap64; omega
theorem long_val (x : Int) (k : Nat) : wrap64 ((limb x (k / 64) / 2 ^ (k % 64)).tmod 2) = limb x (k / 64) / 2 ^ (k % 64) % 2 := by
  have h0 : 0 ≤ limb x (k / 64) / 2 ^ (k % 64) := Int.ediv_nonneg (limb_range x _).1 (Int.le_of_lt (p2_pos _))
  rw [Int.tmod_eq_emod_of_nonneg h0]
  exact wr01 (by omega) (by omega)
theorem long_val7 (x : Int) : wrap64 ((limb x 7 / 9223372036854775808).tmod 2) = bit x 511 := by
  have := long_val x 511
  rw [limb_bit] at this
  exact this
set_option maxRecDepth 100000 in
set_option maxHeartbeats 2000000 in
theorem longC (x : Int) (w : World) : RetR 124 #[.agg #[.int .u64 (w8 x).a, .int .u64 (w8 x).b, .int .u64 (w8 x).c, .int .u64 (w8 x).d, .int .u64 (w8 x).e, .int .u64 (w8 x).f, .int .u64 (w8 x).g, .int .u64 (w8 x).h], .int .i64 520] w 520 ((List.range 520).map fun i => bit x (min i 511)) := by
  unfold RetR RetK
  have hmk : ∀ u : World, (Instr.makeSlice 50 (.int .i64 520) (.int .i64 520)).run Tryz.prog u = .ok (.slice (some ⟨u.heap.size, 0, none⟩) 520 520) (u.alloc (.cells (iv (List.replicate 520 0)).toArray 3)) := mk_ints 520 (by omega)
  generalize hz : (iv (List.replicate 520 0)) = z at hmk
  have HZ := Lib.hid hz
  clear hz
  go_enter Tryz.func124, Tryz.ntmps124
  go_wp2
  go_loopw [6] (fun i wr => ∃ k : Nat, k ≤ 520 ∧ i = .int .i64 k ∧ Box wr w.heap.size [.int .u64 (w8 x).a, .int .u64 (w8 x).b, .int .u64 (w8 x).c, .int .u64 (w8 x).d, .int .u64 (w8 x).e, .int .u64 (w8 x).f, .int .u64 (w8 x).g, .int .u64 (w8 x).h] 127 ∧ Box wr (w.heap.size + 1) (iv (fillAt (fun i => bit x (min i 511)) 520 k)) 3 ∧ Below w.heap.size w wr) (fun i _ => 520 - (RowKit.intOf i).toNat)
  case atStart =>
    refine ⟨0, by omega, rfl, ?_, ?_, ?_⟩
    · exact (Box.new rfl).alloc _
    · rw [fillAt_zero, HZ.out]; exact Box.new (by simp)
    · exact ((Below.refl _ _).alloc (Nat.le_refl _) _).alloc (by simp) _
  case round =>
    rename_i wr
    obtain ⟨k, hk, rfl, hA, hG, hW⟩ := hrel
    by_cases hlt : k < 520
    · have hf := hA.free
      have hgf := hG.free
      have hgc := hG.cell k
      rw [iv_get (fillAt_get _ k hlt)] at hgc
      by_cases h5 : k ≤ 511
      · have hm : decide ((k : Int) ≤ 511) = true := decide_eq_true (by omega)
        have hc := hA.cell (k / 64)
        rw [w8_get x (by omega)] at hc
        go_wp2
        go_roundw
        case rel =>
          refine ⟨k + 1, by omega, by go_num, hA.other (by simp) _, ?_, hW.setCell (by simp) _⟩
          rw [long_val, limb_bit, ← fillAt_set _ hlt, ← iv_set, show bit x k = (fun i => bit x (min i 511)) k by rw [show (fun i => bit x (min i 511)) k = bit x (min k 511) from rfl, Nat.min_eq_left h5]]
          exact hG.set k _
        case measure => simp [RowKit.intOf]; omega
      · have hm : decide ((k : Int) ≤ 511) = false := decide_eq_false (by omega)
        have hc := hA.cell 7
        rw [w8_get x (by omega)] at hc
        go_wp2
        go_roundw
        case rel =>
          refine ⟨k + 1, by omega, by go_num, hA.other (by simp) _, ?_, hW.setCell (by simp) _⟩
          rw [long_val7, ← fillAt_set _ hlt, ← iv_set, show bit x 511 = (fun i => bit x (min i 511)) k by rw [show (fun i => bit x (min i 511)) k = bit x (min k 511) from rfl, Nat.min_eq_right (by omega)]]
          exact hG.set k _
        case measure => simp [RowKit.intOf]; omega
    · obtain rfl : k = 520 := by omega
      rw [fillAt_all] at hG
      go_wp2
      go_ret
      exact ⟨_, rfl, ⟨w.heap.size + 1, rfl, by omega, hG⟩, hW⟩
theorem bitsL_long {x : Int} (h : fits x) : (List.range 520).map (fun i => bit x (min i 511)) = bitsL x 520 := by
  obtain ⟨k, hk, h0, h1⟩ := h
  unfold bitsL
  apply List.map_congr_left
  intro i _
  by_cases hi : i ≤ 511
  · rw [Nat.min_eq_left hi]
  · rw [Nat.min_eq_right (by omega), bit_high h0 h1 hk, bit_high h0 h1 (by omega)]
theorem longB {x : Int} (h : fits x) (w : World) : RetR 124 #[.agg #[.int .u64 (w8 x).a, .int .u64 (w8 x).b, .int .u64 (w8 x).c, .int .u64 (w8 x).d, .int .u64 (w8 x).e, .int .u64 (w8 x).f, .int .u64 (w8 x).g, .int .u64 (w8 x).h], .int .i64 520] w 520 (bitsL x 520) := by
  rw [← bitsL_long h]; exact longC x w
theorem cf123 (args : Array Value) (w1 : World) : (callFunc 123 args).run Tryz.prog w1 = .ok (.enter 123 args) w1 := enters Tryz.func123 (by kernel_rfl) (by kernel_rfl) args w1
set_option maxRecDepth 100000 in
set_option maxHeartbeats 2000000 in
theorem plusB (a b : Int) (n g1 g2 : Nat) (hn : n ≤ 100000) (w : World) (h1 : Box w g1 (iv (bitsL a n)) 3) (h2 : Box w g2 (iv (bitsL b n)) 3) :
    RetR 123 #[.slice (some ⟨g1, 0, none⟩) n n, .slice (some ⟨g2, 0, none⟩) n n] w n (bitsL (a + b) n) := by
  unfold RetR RetK
  have hmk := mk_ints n (by omega)
  generalize hz : (iv (List.replicate n 0)) = z at hmk
  have HZ := Lib.hid hz
  clear hz
  have l1 := h1.lt; have l2 := h2.lt
  have H1 := Lib.hid h1; have H2 := Lib.hid h2
  clear h1 h2
  go_enter Tryz.func123, Tryz.ntmps123
  go_wp2
  go_loopw [6, 7] (fun c i wr => ∃ k : Nat, k ≤ n ∧ i = .int .i64 k ∧ c = .int .i64 (carry a b k) ∧ Box wr w.heap.size (iv (fillAt (bit (a + b)) n k)) 3 ∧ Below w.heap.size w wr) (fun _ i _ => n - (RowKit.intOf i).toNat)
  case atStart =>
    refine ⟨0, by omega, rfl, by rw [carry_zero], ?_, ?_⟩
    · rw [fillAt_zero, HZ.out]; exact Box.new rfl
    · exact (Below.refl _ _).alloc (Nat.le_refl _) _
  case round =>
    rename_i wr
    obtain ⟨k, hk, rfl, rfl, hG, hW⟩ := hrel
    by_cases hlt : k < n
    · have hA := H1.out.below hW l1
      have hB := H2.out.below hW l2
      have e1 := hA.cell k; have e2 := hB.cell k; have e3 := hG.cell k
      rw [iv_get (bitsL_get a hlt)] at e1
      rw [iv_get (bitsL_get b hlt)] at e2
      rw [iv_get (fillAt_get _ k hlt)] at e3
      have f1 := hA.free; have f2 := hB.free; have f3 := hG.free
      have j1 := hA.lt; have j2 := hB.lt; have j3 := hG.lt
      have b1 := bit01 a k; have b2 := bit01 b k; have b3 := carry01 a b k
      obtain ⟨b1, b1'⟩ := b1; obtain ⟨b2, b2'⟩ := b2; obtain ⟨b3, b3'⟩ := b3
      have HC := Lib.hid (carry_succ a b k)
      have HB := Lib.hid (bit_add a b k)
      generalize bit a k = x at *
      generalize bit b k = y at *
      generalize carry a b k = c at *
      go_wp2
      refine wp_region_ph [(11, .free [])] (by kernel_rfl) (by kernel_rfl) ?_
      refine Ph.belowd ?_
      simp only [List.drop_succ_cons, List.drop_zero, List.take_succ_cons, List.take_zero, Nat.reduceSub, Nat.sub_zero]
      iterate 11 (refine SeqO.val (v := ?_) (by rfl) (by rfl) (fun w1 hS => ?_) ?_; rotate_left; (· obtain ⟨hc, hcf⟩ := bcell hS; go_simp; try with_reducible rfl); simp only [Act.put, List.setIfInBounds_toArray, List.set_cons_zero, List.set_cons_succ])
      refine SeqO.nil0 fun w5 hS => ?_
      refine Ph.last ?_
      simp only [List.drop_succ_cons, List.drop_zero, List.take_succ_cons, List.take_zero, Nat.reduceSub, Nat.sub_zero]
      have hG5 := hG.step hS
      have hW5 := hW.trans (hS.mono hW.size)
      have e3 := hG5.cell k
      rw [iv_get (fillAt_get _ k hlt)] at e3
      have f3 := hG5.free
      go_wp2
      go_roundw
      case rel =>
        refine ⟨k + 1, by omega, by go_num, by rw [HC.out], ?_, hW5.setCell (by simp) _⟩
        rw [← fillAt_set _ hlt, HB.out, ← iv_set]
        exact hG5.set k _
      case measure => simp [RowKit.intOf]; omega
    · obtain rfl : k = n := by omega
      rw [fillAt_all] at hG
      go_wp2
      go_ret
      exact ⟨_, rfl, ⟨w.heap.size, rfl, by omega, hG⟩, hW⟩
theorem cf125 (args : Array Value) (w1 : World) : (callFunc 125 args).run Tryz.prog w1 = .ok (.enter 125 args) w1 := enters Tryz.func125 (by kernel_rfl) (by kernel_rfl) args w1
set_option maxRecDepth 100000 in
set_option maxHeartbeats 2000000 in
theorem minusB (a : Int) (n g1 : Nat) (hn : n ≤ 100000) (w : World) (h1 : Box w g1 (iv (bitsL a n)) 3) :
    RetR 125 #[.slice (some ⟨g1, 0, none⟩) n n] w n (bitsL (-a) n) := by
  unfold RetR RetK
  have hmk := mk_ints n (by omega)
  generalize hz : (iv (List.replicate n 0)) = z at hmk
  have HZ := Lib.hid hz
  clear hz
  have l1 := h1.lt
  have H1 := Lib.hid h1
  clear h1
  go_enter Tryz.func125, Tryz.ntmps125
  go_wp2
  go_loopw [4, 5] (fun c i wr => ∃ k : Nat, k ≤ n ∧ i = .int .i64 k ∧ c = .int .i64 (borrow a k) ∧ Box wr w.heap.size (iv (fillAt (bit (-a)) n k)) 3 ∧ Below w.heap.size w wr) (fun _ i _ => n - (RowKit.intOf i).toNat)
  case atStart =>
    refine ⟨0, by omega, rfl, by rw [borrow_zero], ?_, ?_⟩
    · rw [fillAt_zero, HZ.out]; exact Box.new rfl
    · exact (Below.refl _ _).alloc (Nat.le_refl _) _
  case round =>
    rename_i wr
    obtain ⟨k, hk, rfl, rfl, hG, hW⟩ := hrel
    by_cases hlt : k < n
    · have hA := H1.out.below hW l1
      have e1 := hA.cell k; have e3 := hG.cell k
      rw [iv_get (bitsL_get a hlt)] at e1
      rw [iv_get (fillAt_get _ k hlt)] at e3
      have f1 := hA.free; have f3 := hG.free
      have j1 := hA.lt; have j3 := hG.lt
      have b1 := bit01 a k; have b3 := borrow01 a k
      obtain ⟨b1, b1'⟩ := b1; obtain ⟨b3, b3'⟩ := b3
      have HC := Lib.hid (borrow_succ a k)
      have HB := Lib.hid (bit_neg a k)
      generalize bit a k = x at *
      generalize borrow a k = c at *
      go_wp2
      go_roundw
      case rel =>
        refine ⟨k + 1, by omega, by go_num, by rw [HC.out], ?_, hW.setCell (by simp) _⟩
        rw [← fillAt_set _ hlt, HB.out, ← iv_set]
        exact hG.set k _
      case measure => simp [RowKit.intOf]; omega
    · obtain rfl : k = n := by omega
      rw [fillAt_all] at hG
      go_wp2
      go_ret
      exact ⟨_, rfl, ⟨w.heap.size, rfl, by omega, hG⟩, hW⟩
end Go.Proofs.YtbcjnckejkjfeaaGreat
namespace Go.Proofs.YtbcjnckejkjfeaaGreat
set_option linter.unusedVariables false
set_option linter.unusedSimpArgs false
open Go.RowKit Go.NP
/-- Eight words by their places. -/
def lv (f : Nat → Int) : List Value := (List.range 8).map fun j => .int .u64 (f j)
theorem lv_get (f : Nat → Int) {j : Nat} (hj : j < 8) : (lv f)[j]? = some (.int .u64 (f j)) := by
  unfold lv; rw [List.getElem?_map, List.getElem?_range hj]; rfl
theorem lv_set (f g : Nat → Int) {j : Nat} (hj : j < 8) (h : ∀ i, i ≠ j → g i = f i) : (lv f).set j (.int .u64 (g j)) = lv g := by
  apply List.ext_getElem?
  intro i
  rw [List.getElem?_set]
  by_cases hi : i < 8
  · by_cases e : j = i
    · subst e; rw [if_pos rfl, if_pos (by simp [lv]; exact hj), lv_get g hj]
    · rw [if_neg e, lv_get f hi, lv_get g hi, h i (fun h => e h.symm)]
  · rw [if_neg (by omega), List.getElem?_eq_none (by simp [lv]; omega), List.getElem?_eq_none (by simp [lv]; omega)]
theorem lv_congr {f g : Nat → Int} (h : ∀ j, j < 8 → f j = g j) : lv f = lv g := by
  unfold lv; apply List.map_congr_left; intro j hj; rw [h j (List.mem_range.1 hj)]
theorem lv_w8 (x : Int) : lv (limb x) = [.int .u64 (w8 x).a, .int .u64 (w8 x).b, .int .u64 (w8 x).c, .int .u64 (w8 x).d, .int .u64 (w8 x).e, .int .u64 (w8 x).f, .int .u64 (w8 x).g, .int .u64 (w8 x).h] := rfl
theorem wru {n : Int} (h0 : 0 ≤ n) (h1 : n < 18446744073709551616) : IntKind.u64.wrap n = n := by rw [IntKind.wrap_u64]; omega
set_option maxRecDepth 100000 in
set_option maxHeartbeats 4000000 in
theorem ofB {x : Int} (hx : fits x) (n g : Nat) (h512 : 512 ≤ n) (hn : n ≤ 100000) (w : World) (h1 : Box w g (iv (bitsL x n)) 3) :
    RetB Tryz.prog 129 #[.slice (some ⟨g, 0, none⟩) n n] w (.tuple #[.agg #[.int .u64 (w8 x).a, .int .u64 (w8 x).b, .int .u64 (w8 x).c, .int .u64 (w8 x).d, .int .u64 (w8 x).e, .int .u64 (w8 x).f, .int .u64 (w8 x).g, .int .u64 (w8 x).h], .bool true]) := by
  unfold RetB
  have l1 := h1.lt
  have H1 := Lib.hid h1
  have HX := Lib.hid hx
  clear h1 hx
  go_enter Tryz.func129, Tryz.ntmps129
  go_wp2
  go_loopw [5] (fun i wr => ∃ k : Nat, 511 ≤ k ∧ k ≤ n ∧ i = .int .i64 k ∧ Box wr w.heap.size [.int .u64 0, .int .u64 0, .int .u64 0, .int .u64 0, .int .u64 0, .int .u64 0, .int .u64 0, .int .u64 0] 127 ∧ Box wr (w.heap.size + 1) [.int .u64 0, .int .u64 0, .int .u64 0, .int .u64 0, .int .u64 0, .int .u64 0, .int .u64 0, .int .u64 0] 127 ∧ Below w.heap.size w wr) (fun i _ => n - (RowKit.intOf i).toNat)
  case atStart =>
    exact ⟨511, by omega, by omega, rfl, (Box.new rfl).alloc _, Box.new (by simp), ((Below.refl _ _).alloc (Nat.le_refl _) _).alloc (by simp) _⟩
  case round =>
    rename_i wr
    obtain ⟨k, hk0, hk, rfl, hR, hA, hW⟩ := hrel
    have hL := H1.out.below hW l1
    have j1 := hL.lt; have j2 := hR.lt; have j3 := hA.lt
    have f1 := hL.free
    have e2 := hL.cell 511
    rw [iv_get (bitsL_get x (by omega)), fits_bit HX.out (by omega)] at e2
    by_cases hlt : k < n
    · have e1 := hL.cell k
      rw [iv_get (bitsL_get x hlt), fits_bit HX.out (by omega)] at e1
      generalize sbit x = s at *
      have i5 : (511 : Int) < (n : Int) := by omega
      go_wp2
      refine wp_region_ph [(8, .free [])] (by kernel_rfl) (by kernel_rfl) ?_
      refine Ph.belowd ?_
      simp only [List.drop_succ_cons, List.drop_zero, List.take_succ_cons, List.take_zero, Nat.reduceSub, Nat.sub_zero]
      iterate 8 (refine SeqO.val (v := ?_) (by rfl) (by rfl) (fun w1 hS => ?_) ?_; rotate_left; (· obtain ⟨hc, hcf⟩ := bcell hS; go_simp; try with_reducible rfl); simp only [Act.put, List.setIfInBounds_toArray, List.set_cons_zero, List.set_cons_succ])
      refine SeqO.nil0 fun w5 hS => ?_
      refine Ph.last ?_
      simp only [List.drop_succ_cons, List.drop_zero, List.take_succ_cons, List.take_zero, Nat.reduceSub, Nat.sub_zero]
      have hR5 := hR.step hS; have hA5 := hA.step hS
      have hW5 := hW.trans (hS.mono hW.size)
      go_wp2
      go_roundw
      case rel => exact ⟨k + 1, by omega, by omega, by go_num, hR5, hA5, hW5⟩
      case measure => simp [RowKit.intOf]; omega
    · obtain rfl : k = n := by omega
      clear hL f1 e2
      go_wp2
      go_loopw [6] (fun i wx => ∃ m : Nat, m ≤ 512 ∧ i = .int .i64 ((m : Int) - 1) ∧ Box wx w.heap.size [.int .u64 0, .int .u64 0, .int .u64 0, .int .u64 0, .int .u64 0, .int .u64 0, .int .u64 0, .int .u64 0] 127 ∧ Box wx (w.heap.size + 1) (lv (prt x m)) 127 ∧ Below w.heap.size w wx) (fun i _ => (RowKit.intOf i + 1).toNat)
      case atStart =>
        refine ⟨512, by omega, rfl, hR, ?_, hW⟩
        rw [lv_congr (f := prt x 512) (g := fun _ => 0) fun j hj => part_top x hj]
        exact hA
      case round =>
        rename_i wx
        obtain ⟨m, hm, rfl, hR2, hA2, hW2⟩ := hrel
        rcases m with _ | i
        · rw [lv_congr (f := prt x 0) (g := limb x) fun j hj => part_zero x j, lv_w8] at hA2
          have q2 := hR2.lt; have q3 := hA2.lt
          have y0 := (hA2).cell 0; have y1 := (hA2).cell 1; have y2 := (hA2).cell 2; have y3 := (hA2).cell 3; have y4 := (hA2).cell 4; have y5 := (hA2).cell 5; have y6 := (hA2).cell 6; have y7 := (hA2).cell 7; have yf := (hA2).free
          simp only [List.getElem?_cons_zero, List.getElem?_cons_succ] at y0 y1 y2 y3 y4 y5 y6 y7
          have z0 := (hR2).cell 0; have z1 := (hR2).cell 1; have z2 := (hR2).cell 2; have z3 := (hR2).cell 3; have z4 := (hR2).cell 4; have z5 := (hR2).cell 5; have z6 := (hR2).cell 6; have z7 := (hR2).cell 7; have zf := (hR2).free
          simp only [List.getElem?_cons_zero, List.getElem?_cons_succ] at z0 z1 z2 z3 z4 z5 z6 z7
          have e0 : (((0 : Nat) : Int) - 1) = -1 := by decide
          rw [e0]
          go_wp2
          exact bodyPost_ret (v := .tuple #[.agg #[.int .u64 (w8 x).a, .int .u64 (w8 x).b, .int .u64 (w8 x).c, .int .u64 (w8 x).d, .int .u64 (w8 x).e, .int .u64 (w8 x).f, .int .u64 (w8 x).g, .int .u64 (w8 x).h], .bool true]) (by simp [results, Tryz.results129, go_sem, *]) rfl ⟨rfl, ((((((((hW2).setCell (by first | omega | (simp; done) | (simp; omega)) _).setCell (by first | omega | (simp; done) | (simp; omega)) _).setCell (by first | omega | (simp; done) | (simp; omega)) _).setCell (by first | omega | (simp; done) | (simp; omega)) _).setCell (by first | omega | (simp; done) | (simp; omega)) _).setCell (by first | omega | (simp; done) | (simp; omega)) _).setCell (by first | omega | (simp; done) | (simp; omega)) _).setCell (by first | omega | (simp; done) | (simp; omega)) _⟩
        · have e0 : (((i + 1 : Nat) : Int) - 1) = (i : Int) := by omega
          rw [e0]
          have hi8 : i / 64 < 8 := by omega
          have hL := H1.out.below hW2 l1
          have q1 := hL.lt; have q2 := hR2.lt; have q3 := hA2.lt
          have f1 := hL.free; have f3 := hA2.free
          have e1 := hL.cell i
          rw [iv_get (bitsL_get x (by omega))] at e1
          have e3 := hA2.cell (i / 64)
          rw [lv_get _ hi8] at e3
          have b1 := bit01 x i
          obtain ⟨b1, b1'⟩ := b1
          have HS := Lib.hid (part_step x i)
          have r1 := part_range x i (i / 64)
          obtain ⟨r1, r1'⟩ := r1
          rw [HS.out] at r1 r1'
          have r2 := (part_range x (i + 1) (i / 64)).1
          have hi : i < 512 := by omega
          generalize hy : prt x (i + 1) (i / 64) = y at *
          generalize bit x i = b at *
          have HY := Lib.hid hy
          clear hy
          have hr1 : IntKind.u64.wrap (y * 2) = y * 2 := wru (by omega) (by omega)
          have hr2 : IntKind.u64.wrap b = b := wru (by omega) (by omega)
          have hr3 : IntKind.u64.wrap (y * 2 + b) = y * 2 + b := wru (by omega) (by omega)
          have hik : i < k := by omega
          have hw1 : IntKind.i64.wrap ((i : Int) / 64) = (i : Int) / 64 := IntWalk.i64_in _ (by omega)
          have hw2 : (0 : Int) ≤ (i : Int) / 64 := by omega
          have hw3 : (i : Int) / 64 < 8 := by omega
          have hw4 : ((i : Int) / 64).toNat = i / 64 := by omega
          go_wp2
          refine wp_region_ph [(16, .free [])] (by kernel_rfl) (by kernel_rfl) ?_
          refine Ph.belowd ?_
          simp only [List.drop_succ_cons, List.drop_zero, List.take_succ_cons, List.take_zero, Nat.reduceSub, Nat.sub_zero]
          iterate 16 (refine SeqO.val (v := ?_) (by rfl) (by rfl) (fun w1 hS => ?_) ?_; rotate_left; (· obtain ⟨hc, hcf⟩ := bcell hS; go_simp; try with_reducible rfl); simp only [Act.put, List.setIfInBounds_toArray, List.set_cons_zero, List.set_cons_succ])
          refine SeqO.nil0 fun w5 hS => ?_
          refine Ph.last ?_
          simp only [List.drop_succ_cons, List.drop_zero, List.take_succ_cons, List.take_zero, Nat.reduceSub, Nat.sub_zero]
          have hR5 := hR2.step hS; have hA5 := hA2.step hS
          have hW5 := hW2.trans (hS.mono hW2.size)
          have e5 := hA5.cell (i / 64)
          rw [lv_get _ hi8] at e5
          have f5 := hA5.free
          go_wp2
          go_roundw
          case rel =>
            refine ⟨i, by omega, rfl, hR5.other (by simp) _, ?_, hW5.setCell (by simp) _⟩
            rw [← lv_set (prt x (i + 1)) (prt x i) hi8 (fun j hj => part_other x hj), HS.out]
            exact hA5.set (i / 64) _
          case measure => simp [RowKit.intOf]
set_option maxHeartbeats 400000 in
theorem belowB {x : Int} (hx : fits x) (w : World) : RetB Tryz.prog 134 #[.agg #[.int .u64 (w8 x).a, .int .u64 (w8 x).b, .int .u64 (w8 x).c, .int .u64 (w8 x).d, .int .u64 (w8 x).e, .int .u64 (w8 x).f, .int .u64 (w8 x).g, .int .u64 (w8 x).h]] w (.bool (decide (x < 0))) := by
  have h1 := fits_top hx
  have h2 := limb_range x 7
  have e : decide (9223372036854775808 ≤ limb x 7) = decide (x < 0) := by
    apply decide_eq_decide.2
    by_cases h : x < 0
    · rw [sbit_neg h] at h1; omega
    · rw [sbit_pos h] at h1; omega
  have HE := Lib.hid e
  clear h1 h2 hx e
  unfold RetB
  go_enter Tryz.func134, Tryz.ntmps134
  go_wp2
  go_ret
  exact ⟨by rw [← HE.out]; rfl, (Below.refl _ _).alloc (Nat.le_refl _) _⟩
theorem w8_small {x : Int} (h : i63 x) : w8 x = of8 x := by
  obtain ⟨h0, h1⟩ := h
  have hs : ∀ j, 0 < j → limb x j = sg x := fun j hj => by
    rw [limb_small h0 h1 hj]; unfold sg; rw [IntKind.wrap_u64]
  have hl : limb x 0 = lo x := by
    unfold limb lo
    rw [IntKind.wrap_u64, Nat.mul_zero, Int.pow_zero, Int.ediv_one]
    rfl
  unfold w8 of8
  rw [hl, hs 1 (by omega), hs 2 (by omega), hs 3 (by omega), hs 4 (by omega), hs 5 (by omega), hs 6 (by omega), hs 7 (by omega)]
set_option maxRecDepth 100000 in
set_option maxHeartbeats 2000000 in
theorem smallB {x : Int} (hx : i63 x) (w : World) : RetB Tryz.prog 122 #[.int .i64 x] w (.agg #[.int .u64 (w8 x).a, .int .u64 (w8 x).b, .int .u64 (w8 x).c, .int .u64 (w8 x).d, .int .u64 (w8 x).e, .int .u64 (w8 x).f, .int .u64 (w8 x).g, .int .u64 (w8 x).h]) := by
  rw [w8_small hx]
  unfold RetB
  by_cases h : x < 0
  · have hd : decide (x < 0) = true := decide_eq_true h
    have hs := Lib.hid (show sg x = 18446744073709551615 by
      obtain ⟨h0, h1⟩ := hx
      unfold sg; rw [IntKind.wrap_u64, show x / 9223372036854775808 = -1 by omega]; rfl)
    clear h hx
    go_enter Tryz.func122, Tryz.ntmps122
    go_wp2
    refine wp_loop_rounds 9 ?_
    iterate 9 (rw [rounds_succ]; go_wp2)
    refine bodyPost_ret (v := .agg #[.int .u64 (of8 x).a, .int .u64 (of8 x).b, .int .u64 (of8 x).c, .int .u64 (of8 x).d, .int .u64 (of8 x).e, .int .u64 (of8 x).f, .int .u64 (of8 x).g, .int .u64 (of8 x).h]) (by simp [results, Tryz.results122, go_sem]; exact ⟨rfl, hs.out.symm, hs.out.symm, hs.out.symm, hs.out.symm, hs.out.symm, hs.out.symm, hs.out.symm⟩) rfl ⟨rfl, ?_⟩
    exact ((Below.refl _ _).alloc (Nat.le_refl _) _).alloc (by simp) _
  · have hd : decide (x < 0) = false := decide_eq_false h
    have hs := Lib.hid (show sg x = 0 by
      obtain ⟨h0, h1⟩ := hx
      unfold sg; rw [IntKind.wrap_u64, show x / 9223372036854775808 = 0 by omega]; rfl)
    clear h hx
    go_enter Tryz.func122, Tryz.ntmps122
    go_wp2
    refine wp_loop_rounds 9 ?_
    iterate 9 (rw [rounds_succ]; go_wp2)
    refine bodyPost_ret (v := .agg #[.int .u64 (of8 x).a, .int .u64 (of8 x).b, .int .u64 (of8 x).c, .int .u64 (of8 x).d, .int .u64 (of8 x).e, .int .u64 (of8 x).f, .int .u64 (of8 x).g, .int .u64 (of8 x).h]) (by simp [results, Tryz.results122, go_sem]; exact ⟨rfl, hs.out.symm, hs.out.symm, hs.out.symm, hs.out.symm, hs.out.symm, hs.out.symm, hs.out.symm⟩) rfl ⟨rfl, ?_⟩
    exact ((Below.refl _ _).alloc (Nat.le_refl _) _).alloc (by simp) _
theorem cf124 (args : Array Value) (w1 : World) : (callFunc 124 args).run Tryz.prog w1 = .ok (.enter 124 args) w1 := enters Tryz.func124 (by kernel_rfl) (by kernel_rfl) args w1
theorem cf129 (args : Array Value) (w1 : World) : (callFunc 129 args).run Tryz.prog w1 = .ok (.enter 129 args) w1 := enters Tryz.func129 (by kernel_rfl) (by kernel_rfl) args w1
theorem fits_add {x y : Int} (hx : ∃ k : Nat, k ≤ 510 ∧ -2 ^ k ≤ x ∧ x < 2 ^ k) (hy : ∃ k : Nat, k ≤ 510 ∧ -2 ^ k ≤ y ∧ y < 2 ^ k) : fits (x + y) := by
  obtain ⟨i, hi, h0, h1⟩ := hx
  obtain ⟨j, hj, h2, h3⟩ := hy
  have m1 := p2_mono (i := i) (j := 510) (by omega)
  have m2 := p2_mono (i := j) (j := 510) (by omega)
  have e : (2 : Int) ^ 511 = 2 ^ 510 * 2 := Int.pow_succ ..
  refine ⟨511, by omega, ?_, ?_⟩
  · rw [e]; generalize (2 : Int) ^ 510 = P at *; omega
  · rw [e]; generalize (2 : Int) ^ 510 = P at *; omega
theorem RetR.more {f : FuncId} {args : Array Value} {w : World} {n B : Nat} {l : List Int} (h : RetR f args w n l) (hB : B ≤ w.heap.size) : RetK Tryz.prog f args w (newR B n (iv l) 3) :=
  Calls.mono h fun e w' ⟨x, he, ⟨g, h1, h2, h3⟩, hS⟩ => ⟨x, he, ⟨g, h1, by omega, h3⟩, hS⟩
set_option maxRecDepth 100000 in
set_option maxHeartbeats 2000000 in
theorem addB {x y : Int} (hx : fits x) (hy : fits y) (hxy : fits (x + y)) (w : World) : RetB Tryz.prog 120 #[.agg #[.int .u64 (w8 x).a, .int .u64 (w8 x).b, .int .u64 (w8 x).c, .int .u64 (w8 x).d, .int .u64 (w8 x).e, .int .u64 (w8 x).f, .int .u64 (w8 x).g, .int .u64 (w8 x).h], .agg #[.int .u64 (w8 y).a, .int .u64 (w8 y).b, .int .u64 (w8 y).c, .int .u64 (w8 y).d, .int .u64 (w8 y).e, .int .u64 (w8 y).f, .int .u64 (w8 y).g, .int .u64 (w8 y).h]] w (.tuple #[.agg #[.int .u64 (w8 (x + y)).a, .int .u64 (w8 (x + y)).b, .int .u64 (w8 (x + y)).c, .int .u64 (w8 (x + y)).d, .int .u64 (w8 (x + y)).e, .int .u64 (w8 (x + y)).f, .int .u64 (w8 (x + y)).g, .int .u64 (w8 (x + y)).h], .bool true]) := by
  have HX := Lib.hid hx; have HY := Lib.hid hy; have HXY := Lib.hid hxy
  clear hx hy hxy
  unfold RetB
  go_enter Tryz.func120, Tryz.ntmps120
  go_wp2
  refine wp_region_ph [(3, .free [1]), (6, .seq), (8, .free [])] (by kernel_rfl) (by kernel_rfl) ?_
  refine Ph.gend [(1, newR (w.heap.size + 1 + 1 + 1) 520 (iv (bitsL x 520)) 3)] (by rfl) ?_
  simp only [List.drop_succ_cons, List.drop_zero, List.take_succ_cons, List.take_zero, Nat.reduceSub, Nat.sub_zero]
  iterate 1 (refine SeqO.valG (v := ?_) (by rfl) (by rfl) (fun w1 hS => ?_) ?_; rotate_left; (· obtain ⟨hc, hcf⟩ := bcell hS; go_simp; try with_reducible rfl); simp only [Act.put, List.setIfInBounds_toArray, List.set_cons_zero, List.set_cons_succ])
  refine SeqO.callG (newR (w.heap.size + 1 + 1 + 1) 520 (iv (bitsL x 520)) 3) (by rfl) (by simp) (by rfl) (by rfl) cf124 (by simp [Act.eval]) (fun w1 hS => (longB HX.out w1).more (by have := hS.size; simp at this; omega)) ?_
  iterate 1 (refine SeqO.valG (v := ?_) (by rfl) (by rfl) (fun w1 hS => ?_) ?_; rotate_left; (· obtain ⟨hc, hcf⟩ := bcell hS; go_simp; try with_reducible rfl); simp only [Act.put, List.setIfInBounds_toArray, List.set_cons_zero, List.set_cons_succ])
  refine SeqO.nilG (by rfl) fun u w1 hS hK => ?_
  obtain ⟨g1, hg1, hge1, hB1⟩ := hK _ (List.mem_cons_self ..)
  clear hK
  simp only [List.nil_append, List.cons_append, List.foldl_cons, List.foldl_nil, hg1]
  clear hg1
  have hge1 : w.heap.size + 1 + 1 + 1 ≤ g1 := hge1
  have hB1 : Box w1 g1 (iv (bitsL x 520)) 3 := hB1
  have hA : Box w1 (w.heap.size + 1) [.int .u64 (w8 y).a, .int .u64 (w8 y).b, .int .u64 (w8 y).c, .int .u64 (w8 y).d, .int .u64 (w8 y).e, .int .u64 (w8 y).f, .int .u64 (w8 y).g, .int .u64 (w8 y).h] 127 := ((Box.new (by simp)).alloc _).step hS
  have hR : Box w1 (w.heap.size + 1 + 1) [.int .u64 0, .int .u64 0, .int .u64 0, .int .u64 0, .int .u64 0, .int .u64 0, .int .u64 0, .int .u64 0] 127 := (Box.new (by simp)).step hS
  have hW : Below w.heap.size w w1 := ((((Below.refl _ _).alloc (Nat.le_refl _) _).alloc (by simp) _).alloc (by simp; omega) _).trans (hS.mono (by simp; omega))
  clear hS
  refine Ph.list ?_
  simp only [List.drop_succ_cons, List.drop_zero, List.take_succ_cons, List.take_zero, Nat.reduceSub, Nat.sub_zero]
  go_wp2_with fail
  refine Calls.mono (longB HY.out _) ?_
  rintro e w2 ⟨_, rfl, ⟨g2, rfl, hge2, hB2⟩, hS⟩
  have hB1 := hB1.step hS
  have hR := hR.step hS
  have hW := hW.trans (hS.mono hW.size)
  clear hS hA hge2
  go_wp2_with fail
  refine Calls.mono (plusB x y 520 g1 g2 (by omega) _ hB1 hB2) ?_
  rintro e w3 ⟨_, rfl, ⟨g3, rfl, hge3, hB3⟩, hS⟩
  have hR := hR.step hS
  have hW := hW.trans (hS.mono hW.size)
  clear hS hB1 hB2 hge3
  go_wp2_with fail
  refine Calls.mono (ofB HXY.out 520 g3 (by omega) (by omega) _ hB3) ?_
  rintro e w4 ⟨rfl, hS⟩
  have hR := hR.step hS
  have hW := hW.trans (hS.mono hW.size)
  clear hS hB3
  go_wp2_with fail
  refine Ph.below ?_
  simp only [List.drop_succ_cons, List.drop_zero, List.take_succ_cons, List.take_zero, Nat.reduceSub, Nat.sub_zero]
  iterate 2 (refine SeqO.val (v := ?_) (by rfl) (by rfl) (fun w1 hS => ?_) ?_; rotate_left; (· obtain ⟨hc, hcf⟩ := bcell hS; go_simp; try with_reducible rfl); simp only [Act.put, List.setIfInBounds_toArray, List.set_cons_zero, List.set_cons_succ])
  refine SeqO.nil0 fun w5 hS => ?_
  have hR := hR.step hS
  have hW := hW.trans (hS.mono hW.size)
  clear hS
  refine Ph.last ?_
  simp only [List.drop_succ_cons, List.drop_zero, List.take_succ_cons, List.take_zero, Nat.reduceSub, Nat.sub_zero]
  have q0 := (hR).cell 0; have q1 := (hR).cell 1; have q2 := (hR).cell 2; have q3 := (hR).cell 3; have q4 := (hR).cell 4; have q5 := (hR).cell 5; have q6 := (hR).cell 6; have q7 := (hR).cell 7; have qf := (hR).free
  simp only [List.getElem?_cons_zero, List.getElem?_cons_succ] at q0 q1 q2 q3 q4 q5 q6 q7
  have l0 := hR.lt
  go_wp2
  exact bodyPost_ret (v := .tuple #[.agg #[.int .u64 (w8 (x + y)).a, .int .u64 (w8 (x + y)).b, .int .u64 (w8 (x + y)).c, .int .u64 (w8 (x + y)).d, .int .u64 (w8 (x + y)).e, .int .u64 (w8 (x + y)).f, .int .u64 (w8 (x + y)).g, .int .u64 (w8 (x + y)).h], .bool true]) (by simp [results, Tryz.results120, go_sem, *]) rfl ⟨rfl, ((((((((hW).setCell (by first | omega | (simp; done) | (simp; omega)) _).setCell (by first | omega | (simp; done) | (simp; omega)) _).setCell (by first | omega | (simp; done) | (simp; omega)) _).setCell (by first | omega | (simp; done) | (simp; omega)) _).setCell (by first | omega | (simp; done) | (simp; omega)) _).setCell (by first | omega | (simp; done) | (simp; omega)) _).setCell (by first | omega | (simp; done) | (simp; omega)) _).setCell (by first | omega | (simp; done) | (simp; omega)) _⟩
end Go.Proofs.YtbcjnckejkjfeaaGreat
namespace Go.NP
theorem mod_succ (y : Int) (i : Nat) : y % 2 ^ (i + 1) = y % 2 ^ i + bit y i * 2 ^ i := by
  have hp := p2_pos i
  have e1 : y = 2 ^ i * (y / 2 ^ i) + y % 2 ^ i := (Int.mul_ediv_add_emod _ _).symm
  have e2 : y / 2 ^ i = 2 * (y / 2 ^ i / 2) + bit y i := by unfold bit; omega
  have b1 := Int.emod_nonneg y (b := 2 ^ i) (by omega)
  have b2 := Int.emod_lt_of_pos y hp
  have b3 := bit01 y i
  have e3 : y = (y % 2 ^ i + bit y i * 2 ^ i) + 2 ^ (i + 1) * (y / 2 ^ i / 2) := by
    have e4 : 2 ^ i * (y / 2 ^ i) = 2 ^ i * (2 * (y / 2 ^ i / 2)) + 2 ^ i * bit y i := by rw [← Int.mul_add, ← e2]
    have e5 : (2 : Int) ^ (i + 1) * (y / 2 ^ i / 2) = 2 ^ i * (2 * (y / 2 ^ i / 2)) := by rw [Int.pow_succ, Int.mul_assoc]
    have e6 : bit y i * 2 ^ i = 2 ^ i * bit y i := Int.mul_comm ..
    omega
  have hb : bit y i * 2 ^ i ≤ 2 ^ i := by
    have : bit y i * 2 ^ i ≤ 1 * 2 ^ i := Int.mul_le_mul_of_nonneg_right b3.2 (by omega)
    omega
  have hb0 : 0 ≤ bit y i * 2 ^ i := Int.mul_nonneg b3.1 (by omega)
  have e7 : (2 : Int) ^ (i + 1) = 2 ^ i * 2 := Int.pow_succ ..
  have e8 : y % 2 ^ (i + 1) = ((y % 2 ^ i + bit y i * 2 ^ i) + 2 ^ (i + 1) * (y / 2 ^ i / 2)) % 2 ^ (i + 1) := by rw [← e3]
  rw [e8, Int.add_mul_emod_self_left]
  refine Int.emod_eq_of_lt (by omega) ?_
  by_cases h : bit y i = 0
  · rw [h]; omega
  · have : bit y i = 1 := by omega
    rw [this]; omega
/-- What is carried into place i + k when x is added to s from place i on. -/
def mcarry (s x : Int) (i k : Nat) : Int := (s + x * 2 ^ i) / 2 ^ (i + k) - s / 2 ^ (i + k) - x / 2 ^ k
theorem mcarry_zero (s x : Int) (i : Nat) : mcarry s x i 0 = 0 := by
  unfold mcarry
  rw [Nat.add_zero, Int.add_mul_ediv_right _ _ (by have := p2_pos i; omega), div_zero']
  omega
theorem mcarry_succ (s x : Int) (i k : Nat) : mcarry s x i (k + 1) = (bit s (i + k) + mcarry s x i k + bit x k) / 2 := by
  unfold mcarry bit
  rw [← Nat.add_assoc]
  simp only [div_succ]
  omega
theorem bit_madd (s x : Int) (i k : Nat) : bit (s + x * 2 ^ i) (i + k) = (bit s (i + k) + mcarry s x i k + bit x k) % 2 := by
  unfold mcarry bit; omega
theorem mcarry01 (s x : Int) (i : Nat) : ∀ k, 0 ≤ mcarry s x i k ∧ mcarry s x i k ≤ 1
  | 0 => by rw [mcarry_zero]; omega
  | k + 1 => by
    have h1 := mcarry01 s x i k; have h2 := bit01 s (i + k); have h3 := bit01 x k
    rw [mcarry_succ]; omega
/-- Where nothing is carried any more the higher places stay. -/
theorem mcarry_end {s x : Int} {i k : Nat} (h0 : mcarry s x i k = 0) (hx : x / 2 ^ k = 0) {j : Nat} (hj : i + k ≤ j) : bit (s + x * 2 ^ i) j = bit s j := by
  have e : (s + x * 2 ^ i) / 2 ^ (i + k) = s / 2 ^ (i + k) := by unfold mcarry at h0; omega
  obtain ⟨d, rfl⟩ : ∃ d, j = i + k + d := ⟨j - (i + k), by omega⟩
  unfold bit
  rw [Int.pow_add, ← Int.ediv_ediv_of_nonneg (Int.le_of_lt (p2_pos _)), ← Int.ediv_ediv_of_nonneg (Int.le_of_lt (p2_pos _)), e]
theorem mcarry_room {s x : Int} {i k n : Nat} (hs : 0 ≤ s) (hx : 0 ≤ x) (hn : s + x * 2 ^ i < 2 ^ n) (hc : 0 < mcarry s x i k) : i + k < n := by
  rcases Nat.lt_or_ge (i + k) n with h | h
  · exact h
  · exfalso
    have hm := p2_mono h
    have h1 : (s + x * 2 ^ i) / 2 ^ (i + k) = 0 := Int.ediv_eq_zero_of_lt (by have := Int.mul_nonneg hx (Int.le_of_lt (p2_pos i)); omega) (by omega)
    have h2 : 0 ≤ s / 2 ^ (i + k) := Int.ediv_nonneg hs (Int.le_of_lt (p2_pos _))
    have h3 : 0 ≤ x / 2 ^ k := Int.ediv_nonneg hx (Int.le_of_lt (p2_pos _))
    unfold mcarry at hc; omega
/-- A sum of which the places up to m have been reckoned. -/
def mixed (s t : Int) (m : Nat) (j : Nat) : Int := if j < m then bit t j else bit s j
def mixL (s t : Int) (n m : Nat) : List Int := (List.range n).map (mixed s t m)
theorem mixL_len (s t : Int) (n m : Nat) : (mixL s t n m).length = n := by simp [mixL]
theorem mixL_get (s t : Int) {n m i : Nat} (hi : i < n) : (mixL s t n m)[i]? = some (mixed s t m i) := by
  unfold mixL; rw [List.getElem?_map, List.getElem?_range hi]; rfl
theorem mixL_set (s t : Int) {n m : Nat} (hm : m < n) : (mixL s t n m).set m (bit t m) = mixL s t n (m + 1) := by
  apply List.ext_getElem?
  intro i
  rw [List.getElem?_set]
  by_cases hi : i < n
  · rw [mixL_get _ _ hi, mixL_get _ _ hi, mixL_len]
    unfold mixed
    by_cases h : m = i
    · subst h; rw [if_pos rfl, if_pos hm, if_pos (by omega)]
    · rw [if_neg h]
      by_cases h2 : i < m
      · rw [if_pos h2, if_pos (by omega)]
      · rw [if_neg h2, if_neg (by omega)]
  · rw [if_neg (by omega), List.getElem?_eq_none (by rw [mixL_len]; omega), List.getElem?_eq_none (by rw [mixL_len]; omega)]
theorem bitsL_ext {s t : Int} {n : Nat} (h : ∀ i, i < n → bit s i = bit t i) : bitsL s n = bitsL t n := by
  unfold bitsL; apply List.map_congr_left; intro i hi; exact h i (List.mem_range.1 hi)
theorem mixL_start (s t : Int) (n : Nat) {m : Nat} (h : ∀ j, j < m → bit t j = bit s j) : mixL s t n m = bitsL s n := by
  unfold mixL bitsL; apply List.map_congr_left; intro i _
  unfold mixed
  split
  · exact h i (by assumption)
  · rfl
theorem mixL_end (s t : Int) (n : Nat) {m : Nat} (h : ∀ j, m ≤ j → bit t j = bit s j) : mixL s t n m = bitsL t n := by
  unfold mixL bitsL; apply List.map_congr_left; intro i _
  unfold mixed
  split
  · rfl
  · exact (h i (by omega)).symm
/-- Places below where the adding begins stay. -/
theorem bit_low (s x : Int) {i j : Nat} (h : j < i) : bit (s + x * 2 ^ i) j = bit s j := by
  have e : (2 : Int) ^ i = 2 ^ (i - j - 1) * 2 * 2 ^ j := by
    rw [← Int.pow_succ, ← Int.pow_add]; congr 1; omega
  unfold bit
  rw [e, ← Int.mul_assoc, Int.add_mul_ediv_right _ _ (by have := p2_pos j; omega), ← Int.mul_assoc]
  omega
theorem mul_mod_step (x y : Int) (i : Nat) : x * (y % 2 ^ (i + 1)) = x * (y % 2 ^ i) + x * bit y i * 2 ^ i := by
  rw [mod_succ, Int.mul_add, Int.mul_assoc]
theorem mul_mod_le {x y : Int} (hx : 0 ≤ x) (hy : 0 ≤ y) (i : Nat) : x * (y % 2 ^ i) ≤ x * y := by
  refine Int.mul_le_mul_of_nonneg_left ?_ hx
  have e1 : y = 2 ^ i * (y / 2 ^ i) + y % 2 ^ i := (Int.mul_ediv_add_emod _ _).symm
  have := Int.mul_nonneg (Int.le_of_lt (p2_pos i)) (Int.ediv_nonneg hy (Int.le_of_lt (p2_pos i)))
  omega
theorem mod_all {y : Int} {n : Nat} (h0 : 0 ≤ y) (h1 : y < 2 ^ n) : y % 2 ^ n = y := Int.emod_eq_of_lt h0 h1
theorem mod_none (y : Int) : y % 2 ^ 0 = 0 := by rw [Int.pow_zero, Int.emod_one]
theorem bits_zero (n : Nat) : bitsL 0 n = List.replicate n 0 := by
  unfold bitsL
  apply List.ext_getElem?
  intro i
  by_cases hi : i < n
  · rw [List.getElem?_map, List.getElem?_range hi, List.getElem?_replicate, if_pos hi]; simp [bit]
  · rw [List.getElem?_eq_none (by simp; omega), List.getElem?_eq_none (by simp; omega)]
/-- Bits from n on that are all 0 tell a size. -/
theorem lt_of_bits {x : Int} {n m : Nat} (h0 : 0 ≤ x) (h1 : x < 2 ^ m) (h : ∀ i, n ≤ i → i < m → bit x i = 0) : x / 2 ^ n = 0 := by
  rcases Nat.lt_or_ge n m with hn | hn
  · have hp := p2_pos n
    have e : (2 : Int) ^ m = 2 ^ (m - n) * 2 ^ n := by rw [← Int.pow_add]; congr 1; omega
    refine bit_zero_of (k := m - n) (Int.ediv_nonneg h0 (Int.le_of_lt hp)) ?_ fun i hi => ?_
    · rw [e] at h1
      exact Int.ediv_lt_of_lt_mul hp h1
    · have := h (n + i) (by omega) (by omega)
      unfold bit at this ⊢
      rw [Int.ediv_ediv_of_nonneg (Int.le_of_lt hp), ← Int.pow_add]
      exact this
  · have hm := p2_mono hn
    exact div_small h0 (by omega)
/-- Numbers of moderate size. -/
def mid (x : Int) : Prop := -2 ^ 250 ≤ x ∧ x ≤ 2 ^ 250
theorem mid_fits {x : Int} (h : mid x) : fits x := by
  obtain ⟨h0, h1⟩ := h
  have := p2_mono (i := 250) (j := 251) (by omega)
  have e : (2 : Int) ^ 251 = 2 ^ 250 * 2 := Int.pow_succ ..
  have := p2_pos 250
  exact ⟨251, by omega, by omega, by omega⟩
theorem mid_abs {x : Int} (h : mid x) : 0 ≤ (x.natAbs : Int) ∧ (x.natAbs : Int) ≤ 2 ^ 250 := by
  obtain ⟨h0, h1⟩ := h; omega
theorem mid_mul {x y : Int} (hx : mid x) (hy : mid y) : (x.natAbs : Int) * (y.natAbs : Int) ≤ 2 ^ 500 := by
  have h1 := mid_abs hx; have h2 := mid_abs hy
  have : (x.natAbs : Int) * (y.natAbs : Int) ≤ 2 ^ 250 * 2 ^ 250 := Int.mul_le_mul h1.2 h2.2 h2.1 (Int.le_of_lt (p2_pos _))
  rw [← Int.pow_add] at this
  exact this
theorem abs_mul (x y : Int) : x * y = if decide (x < 0) = decide (y < 0) then (x.natAbs : Int) * (y.natAbs : Int) else -((x.natAbs : Int) * (y.natAbs : Int)) := by
  by_cases hx : x < 0 <;> by_cases hy : y < 0
  · rw [if_pos (by simp [hx, hy])]
    have e1 : (x.natAbs : Int) = -x := by omega
    have e2 : (y.natAbs : Int) = -y := by omega
    rw [e1, e2, Int.neg_mul_neg]
  · rw [if_neg (by simp [hx, hy])]
    have e1 : (x.natAbs : Int) = -x := by omega
    have e2 : (y.natAbs : Int) = y := by omega
    rw [e1, e2, Int.neg_mul, Int.neg_neg]
  · rw [if_neg (by simp [hx, hy])]
    have e1 : (x.natAbs : Int) = x := by omega
    have e2 : (y.natAbs : Int) = -y := by omega
    rw [e1, e2, Int.mul_neg, Int.neg_neg]
  · rw [if_pos (by simp [hx, hy])]
    have e1 : (x.natAbs : Int) = x := by omega
    have e2 : (y.natAbs : Int) = y := by omega
    rw [e1, e2]
theorem fits_mul {x y : Int} (hx : mid x) (hy : mid y) : fits (x * y) := by
  have h := mid_mul hx hy
  have h0 : 0 ≤ (x.natAbs : Int) * (y.natAbs : Int) := Int.mul_nonneg (by omega) (by omega)
  have e : (2 : Int) ^ 501 = 2 ^ 500 * 2 := Int.pow_succ ..
  have hp := p2_pos 500
  refine ⟨501, by omega, ?_, ?_⟩ <;> rw [abs_mul] <;> split <;> omega
end Go.NP
namespace Go.Proofs.YtbcjnckejkjfeaaGreat
set_option linter.unusedVariables false
set_option linter.unusedSimpArgs false
open Go.RowKit Go.NP
def cmpI (x y : Int) : Int := if x = y then 0 else if x < y then -1 else 1
theorem cf132 (args : Array Value) (w1 : World) : (callFunc 132 args).run Tryz.prog w1 = .ok (.enter 132 args) w1 := enters Tryz.func132 (by kernel_rfl) (by kernel_rfl) args w1
theorem neg_fit {y : Int} (h : fits y) : True := trivial
set_option maxRecDepth 100000 in
set_option maxHeartbeats 2000000 in
theorem cmpB {x y : Int} (hx : mid x) (hy : mid y) (w : World) : RetB Tryz.prog 113 #[.agg #[.int .u64 (w8 x).a, .int .u64 (w8 x).b, .int .u64 (w8 x).c, .int .u64 (w8 x).d, .int .u64 (w8 x).e, .int .u64 (w8 x).f, .int .u64 (w8 x).g, .int .u64 (w8 x).h], .agg #[.int .u64 (w8 y).a, .int .u64 (w8 y).b, .int .u64 (w8 y).c, .int .u64 (w8 y).d, .int .u64 (w8 y).e, .int .u64 (w8 y).f, .int .u64 (w8 y).g, .int .u64 (w8 y).h]] w (.int .i64 (cmpI x y)) := by
  have HX := Lib.hid (mid_fits hx); have HY := Lib.hid (mid_fits hy)
  have hd : -2 ^ 251 ≤ x + -y ∧ x + -y ≤ 2 ^ 251 := by
    obtain ⟨a0, a1⟩ := hx; obtain ⟨b0, b1⟩ := hy
    have e : (2 : Int) ^ 251 = 2 ^ 250 * 2 := Int.pow_succ ..
    rw [e]; omega
  have hb : bit (x + -y) 519 = sbit (x + -y) := by
    have := p2_mono (i := 251) (j := 252) (by omega)
    have e : (2 : Int) ^ 252 = 2 ^ 251 * 2 := Int.pow_succ ..
    have hp := p2_pos 251
    exact bit_high (k := 252) (by omega) (by omega) (by omega)
  have HD := Lib.hid hd
  have HB := Lib.hid hb
  clear hx hy hd hb
  unfold RetB
  go_enter Tryz.func113, Tryz.ntmps113
  go_wp2
  refine wp_region_ph [(3, .free [1])] (by kernel_rfl) (by kernel_rfl) ?_
  refine Ph.gend [(1, newR (w.heap.size + 1 + 1) 520 (iv (bitsL x 520)) 3)] (by rfl) ?_
  simp only [List.drop_succ_cons, List.drop_zero, List.take_succ_cons, List.take_zero, Nat.reduceSub, Nat.sub_zero]
  iterate 1 (refine SeqO.valG (v := ?_) (by rfl) (by rfl) (fun w1 hS => ?_) ?_; rotate_left; (· obtain ⟨hc, hcf⟩ := bcell hS; go_simp; try with_reducible rfl); simp only [Act.put, List.setIfInBounds_toArray, List.set_cons_zero, List.set_cons_succ])
  refine SeqO.callG (newR (w.heap.size + 1 + 1) 520 (iv (bitsL x 520)) 3) (by rfl) (by simp) (by rfl) (by rfl) cf124 (by simp [Act.eval]) (fun w1 hS => (longB HX.out w1).more (by have := hS.size; simp at this; omega)) ?_
  iterate 1 (refine SeqO.valG (v := ?_) (by rfl) (by rfl) (fun w1 hS => ?_) ?_; rotate_left; (· obtain ⟨hc, hcf⟩ := bcell hS; go_simp; try with_reducible rfl); simp only [Act.put, List.setIfInBounds_toArray, List.set_cons_zero, List.set_cons_succ])
  refine SeqO.nilG (by rfl) fun u w1 hS hK => ?_
  obtain ⟨g1, hg1, hge1, hB1⟩ := hK _ (List.mem_cons_self ..)
  clear hK
  simp only [List.nil_append, List.cons_append, List.foldl_cons, List.foldl_nil, hg1]
  clear hg1
  have hge1 : w.heap.size + 1 + 1 ≤ g1 := hge1
  have hB1 : Box w1 g1 (iv (bitsL x 520)) 3 := hB1
  have hW : Below w.heap.size w w1 := (((Below.refl _ _).alloc (Nat.le_refl _) _).alloc (by simp) _).trans (hS.mono (by simp; omega))
  clear hS
  refine Ph.last ?_
  simp only [List.drop_succ_cons, List.drop_zero, List.take_succ_cons, List.take_zero, Nat.reduceSub, Nat.sub_zero]
  go_wp2_with fail
  refine Calls.mono (longB HY.out _) ?_
  rintro e w2 ⟨_, rfl, ⟨g2, rfl, hge2, hB2⟩, hS⟩
  have hB1 := hB1.step hS
  have hW := hW.trans (hS.mono hW.size)
  clear hS hge2
  go_wp2_with fail
  refine Calls.mono (minusB y 520 g2 (by omega) _ hB2) ?_
  rintro e w3 ⟨_, rfl, ⟨g3, rfl, hge3, hB3⟩, hS⟩
  have hB1 := hB1.step hS
  have hW := hW.trans (hS.mono hW.size)
  clear hS hB2 hge3
  go_wp2_with fail
  refine Calls.mono (plusB x (-y) 520 g1 g3 (by omega) _ hB1 hB3) ?_
  rintro e w4 ⟨_, rfl, ⟨g4, rfl, hge4, hB4⟩, hS⟩
  have hW := hW.trans (hS.mono hW.size)
  clear hS hB1 hB3 hge4 hge1
  have hc := hB4.cell 519
  rw [iv_get (bitsL_get _ (by omega)), HB.out] at hc
  have hf := hB4.free
  have hl := hB4.lt
  by_cases hlt : x + -y < 0
  · rw [sbit_neg hlt] at hc
    have hr := Lib.hid (show cmpI x y = -1 from by unfold cmpI; rw [if_neg (by omega), if_pos (by omega)])
    clear hlt
    go_wp2
    go_ret
    exact ⟨retI (by rw [hr.out]), hW⟩
  · rw [sbit_pos hlt] at hc
    have HN := Lib.hid hlt
    clear hlt
    go_wp2
    clear hc
    go_loop [6] (fun i => ∃ k : Nat, k ≤ 520 ∧ i = .int .i64 k ∧ ∀ j, j < k → bit (x + -y) j = 0) (fun i => 520 - (RowKit.intOf i).toNat)
    case atStart => exact ⟨0, by omega, rfl, fun j hj => absurd hj (by omega)⟩
    case round =>
      obtain ⟨k, hk, rfl, hz⟩ := hrel
      have HZ := Lib.hid hz
      clear hz
      by_cases hkl : k < 520
      · have hc := hB4.cell k
        rw [iv_get (bitsL_get _ hkl)] at hc
        have hb := bit01 (x + -y) k
        by_cases h0 : bit (x + -y) k = 0
        · have H0 := Lib.hid h0
          rw [h0] at hc
          clear h0 hb
          go_wp2
          go_round
          case rel => exact ⟨k + 1, by omega, by go_num, fun j hj => by
            by_cases e : j = k
            · rw [e]; exact H0.out
            · exact HZ.out j (by omega)⟩
          case measure => simp [RowKit.intOf]; omega
        · have h1 : bit (x + -y) k = 1 := by omega
          have hr := Lib.hid (show cmpI x y = 1 from by
            unfold cmpI
            have := HN.out
            by_cases e : x = y
            · exfalso
              have e2 : x + -y = 0 := by omega
              rw [e2] at h0
              exact h0 (by simp [bit])
            · rw [if_neg e, if_neg (by omega)])
          rw [h1] at hc
          clear h0 h1 hb
          go_wp2
          go_ret
          exact ⟨retI (by rw [hr.out]), hW⟩
      · obtain rfl : k = 520 := by omega
        have hr := Lib.hid (show cmpI x y = 0 from by
          unfold cmpI
          have h0 := HN.out
          have h1 := HD.out
          have hp := p2_mono (i := 251) (j := 520) (by omega)
          have hq : (2 : Int) ^ 251 < 2 ^ 520 := by
            have := p2_mono (i := 252) (j := 520) (by omega)
            have e : (2 : Int) ^ 252 = 2 ^ 251 * 2 := Int.pow_succ ..
            have := p2_pos 251
            omega
          have := bit_zero_of (x := x + -y) (k := 520) (by omega) (by omega) HZ.out
          rw [if_pos (by omega)])
        go_wp2
        go_ret
        exact ⟨retI (by rw [hr.out]), hW⟩
set_option maxRecDepth 100000 in
set_option maxHeartbeats 2000000 in
theorem sizeB {x : Int} (hx : mid x) (w : World) : RetR 132 #[.agg #[.int .u64 (w8 x).a, .int .u64 (w8 x).b, .int .u64 (w8 x).c, .int .u64 (w8 x).d, .int .u64 (w8 x).e, .int .u64 (w8 x).f, .int .u64 (w8 x).g, .int .u64 (w8 x).h]] w 520 (bitsL (x.natAbs : Int) 520) := by
  have HX := Lib.hid (mid_fits hx)
  clear hx
  unfold RetR RetK
  by_cases hlt : x < 0
  · have ha := Lib.hid (show (x.natAbs : Int) = -x by omega)
    have hd := Lib.hid (show decide (x < 0) = true from decide_eq_true hlt)
    clear hlt
    go_enter Tryz.func132, Tryz.ntmps132
    go_wp2_with fail
    refine Calls.mono (longB HX.out _) ?_
    rintro e w2 ⟨_, rfl, ⟨g2, rfl, hge2, hB2⟩, hS⟩
    have hA : Box w2 w.heap.size [.int .u64 (w8 x).a, .int .u64 (w8 x).b, .int .u64 (w8 x).c, .int .u64 (w8 x).d, .int .u64 (w8 x).e, .int .u64 (w8 x).f, .int .u64 (w8 x).g, .int .u64 (w8 x).h] 127 := (Box.new rfl).step hS
    have hW : Below w.heap.size w w2 := ((Below.refl _ _).alloc (Nat.le_refl _) _).trans (hS.mono (by simp))
    have y0 := (hA).cell 0; have y1 := (hA).cell 1; have y2 := (hA).cell 2; have y3 := (hA).cell 3; have y4 := (hA).cell 4; have y5 := (hA).cell 5; have y6 := (hA).cell 6; have y7 := (hA).cell 7; have yf := (hA).free
    simp only [List.getElem?_cons_zero, List.getElem?_cons_succ] at y0 y1 y2 y3 y4 y5 y6 y7
    clear hS hA
    go_wp2_with fail
    refine ((belowB HX.out _).eq (by rw [hd.out])).mono ?_
    rintro e w3 ⟨rfl, hS⟩
    have hB2 := hB2.step hS
    have hW := hW.trans (hS.mono hW.size)
    clear y0 y1 y2 y3 y4 y5 y6 y7 yf
    clear hS
    go_wp2_with fail
    refine Calls.mono (minusB x 520 g2 (by omega) _ hB2) ?_
    rintro e w4 ⟨_, rfl, ⟨g4, rfl, hge4, hB4⟩, hS⟩
    have hle := hW.size
    have hW := hW.trans (hS.mono hW.size)
    clear hS hB2
    go_wp2
    go_ret
    rw [ha.out]
    exact ⟨_, rfl, ⟨g4, rfl, by omega, hB4⟩, hW⟩
  · have ha := Lib.hid (show (x.natAbs : Int) = x by omega)
    have hd := Lib.hid (show decide (x < 0) = false from decide_eq_false hlt)
    clear hlt
    go_enter Tryz.func132, Tryz.ntmps132
    go_wp2_with fail
    refine Calls.mono (longB HX.out _) ?_
    rintro e w2 ⟨_, rfl, ⟨g2, rfl, hge2, hB2⟩, hS⟩
    have hA : Box w2 w.heap.size [.int .u64 (w8 x).a, .int .u64 (w8 x).b, .int .u64 (w8 x).c, .int .u64 (w8 x).d, .int .u64 (w8 x).e, .int .u64 (w8 x).f, .int .u64 (w8 x).g, .int .u64 (w8 x).h] 127 := (Box.new rfl).step hS
    have hW : Below w.heap.size w w2 := ((Below.refl _ _).alloc (Nat.le_refl _) _).trans (hS.mono (by simp))
    have y0 := (hA).cell 0; have y1 := (hA).cell 1; have y2 := (hA).cell 2; have y3 := (hA).cell 3; have y4 := (hA).cell 4; have y5 := (hA).cell 5; have y6 := (hA).cell 6; have y7 := (hA).cell 7; have yf := (hA).free
    simp only [List.getElem?_cons_zero, List.getElem?_cons_succ] at y0 y1 y2 y3 y4 y5 y6 y7
    clear hS hA
    go_wp2_with fail
    refine ((belowB HX.out _).eq (by rw [hd.out])).mono ?_
    rintro e w3 ⟨rfl, hS⟩
    have hB2 := hB2.step hS
    have hW := hW.trans (hS.mono hW.size)
    clear y0 y1 y2 y3 y4 y5 y6 y7 yf
    clear hS
    go_wp2
    go_ret
    rw [ha.out]
    exact ⟨_, rfl, ⟨g2, rfl, by have := hge2; simp at this; omega, hB2⟩, hW⟩
set_option maxRecDepth 100000 in
set_option maxHeartbeats 2000000 in
theorem topBC {x : Int} (h0 : 0 ≤ x) (h1 : x < 2 ^ 520) (g : Nat) (w : World) (hB : Box w g (iv (bitsL x 520)) 3) :
    Calls Tryz.prog 133 #[.slice (some ⟨g, 0, none⟩) 520 520] w fun e w' => (∃ m : Nat, m ≤ 520 ∧ e = .returned (.int .i64 m) ∧ x / 2 ^ m = 0) ∧ w' = w := by
  have HH := Lib.hid (show ∀ m, (∀ i, m ≤ i → i < 520 → bit x i = 0) → x / 2 ^ m = 0 from fun m h => lt_of_bits h0 h1 h)
  clear h0 h1
  have hf := hB.free
  have hl := hB.lt
  go_enter Tryz.func133, Tryz.ntmps133
  go_wp2
  go_loop [3] (fun i => ∃ m : Nat, m ≤ 520 ∧ i = .int .i64 m ∧ ∀ i, m ≤ i → i < 520 → bit x i = 0) (fun i => (RowKit.intOf i).toNat)
  case atStart => exact ⟨520, by omega, rfl, fun i h1 h2 => absurd h1 (by omega)⟩
  case round =>
    obtain ⟨m, hm, rfl, hz⟩ := hrel
    have HZ := Lib.hid hz
    clear hz
    rcases m with _ | m
    · go_wp2
      go_ret
      exact ⟨⟨0, by omega, rfl, HH.out _ HZ.out⟩, rfl⟩
    · have hc := hB.cell m
      rw [iv_get (bitsL_get _ (by omega))] at hc
      have hb := bit01 x m
      have HM := Lib.hid (show m + 1 ≤ 520 from hm)
      have hm' : m < 520 := by omega
      clear hm
      generalize hn : (((m + 1 : Nat)) : Int) = n
      have h1 : 0 < n := by omega
      have h2 : n ≤ 520 := by omega
      have e1 : n - 1 = (m : Int) := by omega
      have HN := Lib.hid hn
      clear hn
      by_cases hz : bit x m = 0
      · have H0 := Lib.hid hz
        rw [hz] at hc
        clear hz hb
        go_wp2
        go_round
        case rel => exact ⟨m, by omega, rfl, fun j h1 h2 => by
          by_cases e : j = m
          · rw [e]; exact H0.out
          · exact HZ.out j (by omega) h2⟩
        case measure => simp [RowKit.intOf]; omega
      · have hz1 : bit x m = 1 := by omega
        rw [hz1] at hc
        clear hz hz1 hb
        go_wp2
        go_ret
        exact ⟨⟨m + 1, HM.out, retI HN.out.symm, HH.out _ HZ.out⟩, rfl⟩
end Go.Proofs.YtbcjnckejkjfeaaGreat
namespace Go.Proofs.YtbcjnckejkjfeaaGreat
set_option linter.unusedVariables false
set_option linter.unusedSimpArgs false
open Go.RowKit Go.NP
theorem cf134 (args : Array Value) (w1 : World) : (callFunc 134 args).run Tryz.prog w1 = .ok (.enter 134 args) w1 := enters Tryz.func134 (by kernel_rfl) (by kernel_rfl) args w1
/-- What the outer loop reckons with. -/
structure MulS (X Y : Int) : Prop where
  x0 : 0 ≤ X
  y0 : 0 ≤ Y
  x1 : X < 2 ^ 520
  y1 : Y < 2 ^ 520
  xy : X * Y < 2 ^ 1040
theorem mulS_of {x y : Int} (hx : mid x) (hy : mid y) : MulS (x.natAbs : Int) (y.natAbs : Int) := by
  have h1 := mid_abs hx; have h2 := mid_abs hy; have h3 := mid_mul hx hy
  have p1 : (2 : Int) ^ 250 < 2 ^ 520 := by
    have := p2_mono (i := 251) (j := 520) (by omega)
    have e : (2 : Int) ^ 251 = 2 ^ 250 * 2 := Int.pow_succ ..
    have := p2_pos 250
    omega
  have p2 : (2 : Int) ^ 500 < 2 ^ 1040 := by
    have := p2_mono (i := 501) (j := 1040) (by omega)
    have e : (2 : Int) ^ 501 = 2 ^ 500 * 2 := Int.pow_succ ..
    have := p2_pos 500
    omega
  exact ⟨h1.1, h2.1, by omega, by omega, by omega⟩
theorem mod_nn (y : Int) (i : Nat) : 0 ≤ y % 2 ^ i := Int.emod_nonneg _ (by have := p2_pos i; omega)
theorem MulS.next {X Y : Int} (h : MulS X Y) {i : Nat} (h1 : bit Y i = 1) : X * (Y % 2 ^ i) + X * 2 ^ i = X * (Y % 2 ^ (i + 1)) := by
  rw [mul_mod_step, h1, Int.mul_one]
theorem MulS.same {X Y : Int} (h : MulS X Y) {i : Nat} (h0 : bit Y i = 0) : X * (Y % 2 ^ (i + 1)) = X * (Y % 2 ^ i) := by
  rw [mul_mod_step, h0, Int.mul_zero, Int.zero_mul, Int.add_zero]
theorem MulS.room {X Y : Int} (h : MulS X Y) {i : Nat} (h1 : bit Y i = 1) : X * (Y % 2 ^ i) + X * 2 ^ i < 2 ^ 1040 := by
  rw [h.next h1]
  have := mul_mod_le h.x0 h.y0 (i + 1)
  have := h.xy
  omega
theorem MulS.s0 {X Y : Int} (h : MulS X Y) (i : Nat) : 0 ≤ X * (Y % 2 ^ i) := Int.mul_nonneg h.x0 (mod_nn _ _)
set_option maxRecDepth 100000 in
set_option maxHeartbeats 8000000 in
theorem mulB {x y : Int} (hx : mid x) (hy : mid y) (w : World) : RetB Tryz.prog 130 #[.agg #[.int .u64 (w8 x).a, .int .u64 (w8 x).b, .int .u64 (w8 x).c, .int .u64 (w8 x).d, .int .u64 (w8 x).e, .int .u64 (w8 x).f, .int .u64 (w8 x).g, .int .u64 (w8 x).h], .agg #[.int .u64 (w8 y).a, .int .u64 (w8 y).b, .int .u64 (w8 y).c, .int .u64 (w8 y).d, .int .u64 (w8 y).e, .int .u64 (w8 y).f, .int .u64 (w8 y).g, .int .u64 (w8 y).h]] w (.tuple #[.agg #[.int .u64 (w8 (x * y)).a, .int .u64 (w8 (x * y)).b, .int .u64 (w8 (x * y)).c, .int .u64 (w8 (x * y)).d, .int .u64 (w8 (x * y)).e, .int .u64 (w8 (x * y)).f, .int .u64 (w8 (x * y)).g, .int .u64 (w8 (x * y)).h], .bool true]) := by
  have HX := Lib.hid hx; have HY := Lib.hid hy
  have HS := Lib.hid (mulS_of hx hy)
  have HXY := Lib.hid (abs_mul x y)
  clear hx hy
  have hmk : ∀ u : World, (Instr.makeSlice 50 (.int .i64 1040) (.int .i64 1040)).run Tryz.prog u = .ok (.slice (some ⟨u.heap.size, 0, none⟩) 1040 1040) (u.alloc (.cells (iv (List.replicate 1040 0)).toArray 3)) := mk_ints 1040 (by omega)
  generalize hz : (iv (List.replicate 1040 0)) = z at hmk
  have HZ := Lib.hid hz
  clear hz
  unfold RetB
  go_enter Tryz.func130, Tryz.ntmps130
  go_wp2
  refine wp_region_ph [(3, .free [1])] (by kernel_rfl) (by kernel_rfl) ?_
  refine Ph.gend [(1, newR (w.heap.size + 1 + 1 + 1) 520 (iv (bitsL (x.natAbs : Int) 520)) 3)] (by rfl) ?_
  simp only [List.drop_succ_cons, List.drop_zero, List.take_succ_cons, List.take_zero, Nat.reduceSub, Nat.sub_zero]
  iterate 1 (refine SeqO.valG (v := ?_) (by rfl) (by rfl) (fun w1 hS => ?_) ?_; rotate_left; (· obtain ⟨hc, hcf⟩ := bcell hS; go_simp; try with_reducible rfl); simp only [Act.put, List.setIfInBounds_toArray, List.set_cons_zero, List.set_cons_succ])
  refine SeqO.callG (newR (w.heap.size + 1 + 1 + 1) 520 (iv (bitsL (x.natAbs : Int) 520)) 3) (by rfl) (by simp) (by rfl) (by rfl) cf132 (by simp [Act.eval]) (fun w1 hS => (sizeB HX.out w1).more (by have := hS.size; simp at this; omega)) ?_
  iterate 1 (refine SeqO.valG (v := ?_) (by rfl) (by rfl) (fun w1 hS => ?_) ?_; rotate_left; (· obtain ⟨hc, hcf⟩ := bcell hS; go_simp; try with_reducible rfl); simp only [Act.put, List.setIfInBounds_toArray, List.set_cons_zero, List.set_cons_succ])
  refine SeqO.nilG (by rfl) fun u w1 hS hK => ?_
  obtain ⟨g6, hg1, hge1, hB1⟩ := hK _ (List.mem_cons_self ..)
  clear hK
  simp only [List.nil_append, List.cons_append, List.foldl_cons, List.foldl_nil, hg1]
  clear hg1
  have hge1 : w.heap.size + 1 + 1 + 1 ≤ g6 := hge1
  have hB6 : Box w1 g6 (iv (bitsL (x.natAbs : Int) 520)) 3 := hB1
  have hA : Box w1 w.heap.size [.int .u64 (w8 x).a, .int .u64 (w8 x).b, .int .u64 (w8 x).c, .int .u64 (w8 x).d, .int .u64 (w8 x).e, .int .u64 (w8 x).f, .int .u64 (w8 x).g, .int .u64 (w8 x).h] 127 := (((Box.new rfl).alloc _).alloc _).step hS
  have hC : Box w1 (w.heap.size + 1) [.int .u64 (w8 y).a, .int .u64 (w8 y).b, .int .u64 (w8 y).c, .int .u64 (w8 y).d, .int .u64 (w8 y).e, .int .u64 (w8 y).f, .int .u64 (w8 y).g, .int .u64 (w8 y).h] 127 := ((Box.new (by simp)).alloc _).step hS
  have hR : Box w1 (w.heap.size + 1 + 1) [.int .u64 0, .int .u64 0, .int .u64 0, .int .u64 0, .int .u64 0, .int .u64 0, .int .u64 0, .int .u64 0] 127 := (Box.new (by simp)).step hS
  have hW : Below w.heap.size w w1 := ((((Below.refl _ _).alloc (Nat.le_refl _) _).alloc (by simp) _).alloc (by simp; omega) _).trans (hS.mono (by simp; omega))
  clear hS hB1
  refine Ph.last ?_
  simp only [List.drop_succ_cons, List.drop_zero, List.take_succ_cons, List.take_zero, Nat.reduceSub, Nat.sub_zero]
  go_wp2_with fail
  refine Calls.mono (sizeB HY.out _) ?_
  rintro e w2 ⟨_, rfl, ⟨g7, rfl, hge2, hB7⟩, hS⟩
  have hB6 := hB6.step hS; have hA := hA.step hS; have hC := hC.step hS; have hR := hR.step hS
  have hW := hW.trans (hS.mono hW.size)
  clear hS hge2
  generalize hX : (x.natAbs : Int) = X at *
  generalize hY : (y.natAbs : Int) = Y at *
  clear hX hY
  go_wp2_with fail
  refine (topBC HS.out.x0 HS.out.x1 g6 _ hB6).mono ?_
  rintro e w3 ⟨⟨m, hm, rfl, hXm⟩, rfl⟩
  have HXM := Lib.hid hXm
  clear hXm
  go_wp2
  have l6 := hB6.lt; have l7 := hB7.lt; have lA := hA.lt; have lC := hC.lt; have lR := hR.lt
  go_loopw [10] (fun i wr => ∃ k : Nat, k ≤ 520 ∧ i = .int .i64 k ∧ Box wr w3.heap.size (iv (bitsL (X * (Y % 2 ^ k)) 1040)) 3 ∧ Below w3.heap.size w3 wr) (fun i _ => 520 - (RowKit.intOf i).toNat)
  case atStart =>
    refine ⟨0, by omega, rfl, ?_, (Below.refl _ _).alloc (Nat.le_refl _) _⟩
    rw [mod_none, Int.mul_zero, bits_zero, HZ.out]
    exact Box.new rfl
  case round =>
    rename_i wr
    obtain ⟨i, hi, rfl, hG, hV⟩ := hrel
    have j6 := hB6.below hV l6; have j7 := hB7.below hV l7
    have q6 := j6.lt; have q7 := j7.lt; have q9 := hG.lt
    have f7 := j7.free
    by_cases hlt : i < 520
    · have e7 := j7.cell i
      rw [iv_get (bitsL_get _ hlt)] at e7
      have hb := bit01 Y i
      by_cases h0 : bit Y i = 0
      · have HE := Lib.hid (HS.out.same h0)
        rw [h0] at e7
        clear h0 hb
        go_wp2
        go_roundw
        case rel => exact ⟨i + 1, by omega, by go_num, by rw [HE.out]; exact hG, hV⟩
        case measure => simp [RowKit.intOf]; omega
      · have h1 : bit Y i = 1 := by omega
        have HE := Lib.hid (HS.out.next h1)
        have HR := Lib.hid (HS.out.room h1)
        have HS0 := Lib.hid (HS.out.s0 i)
        rw [h1] at e7
        clear h0 h1 hb
        generalize X * (Y % 2 ^ i) = s at *
        go_wp2
        clear e7 f7 q6 q7 q9
        go_loopw [11, 12] (fun c k wx => ∃ n : Nat, i + n ≤ 1040 ∧ k = .int .i64 n ∧ c = .int .i64 (mcarry s X i n) ∧ Box wx w3.heap.size (iv (mixL s (s + X * 2 ^ i) 1040 (i + n))) 3 ∧ Below w3.heap.size w3 wx) (fun _ k _ => 1040 - (RowKit.intOf k).toNat)
        case atStart =>
          refine ⟨0, by omega, rfl, by rw [mcarry_zero], ?_, hV⟩
          rw [mixL_start _ _ _ (fun j hj => bit_low s X (by omega))]
          exact hG
        case round =>
          rename_i wx
          obtain ⟨n, hn, rfl, rfl, hM, hU⟩ := hrel
          have j6 := hB6.below hU l6
          have q6 := j6.lt; have q9 := hM.lt
          have f6 := j6.free; have f9 := hM.free
          have b3 := mcarry01 s X i n
          by_cases hgo : n < m ∨ 0 < mcarry s X i n
          · have hp : i + n < 1040 := by
              rcases hgo with h | h
              · omega
              · exact mcarry_room HS0.out HS.out.x0 HR.out h
            obtain ⟨p, hpe⟩ : ∃ p, p = i + n := ⟨_, rfl⟩
            have ep : (i : Int) + (n : Int) = (p : Int) := by omega
            have e9 := hM.cell p
            rw [iv_get (mixL_get _ _ (by omega))] at e9
            have hmx : mixed s (s + X * 2 ^ i) (i + n) p = bit s (i + n) := by unfold mixed; rw [hpe, if_neg (by omega)]
            rw [hmx] at e9
            clear hmx
            have b1 := bit01 s (i + n)
            have HC := Lib.hid (mcarry_succ s X i n)
            have HB := Lib.hid (bit_madd s X i n)
            have HM := Lib.hid hM
            have HP := Lib.hid hpe
            have pl : p < 1040 := by omega
            clear hM hpe hp
            have b2 := bit01 X n
            generalize hsb : bit s (i + n) = sb at *
            generalize hcb : mcarry s X i n = cb at *
            clear hsb hcb
            by_cases hnm : n < m
            · have e6 := j6.cell n
              rw [iv_get (bitsL_get _ (by omega))] at e6
              generalize bit X n = xb at *
              have i1 : n < 520 := by omega
              clear hgo
              go_wp2
              go_roundw
              case rel =>
                refine ⟨n + 1, by have := HP.out; omega, by go_num, by rw [HC.out], ?_, hU.setCell (by simp) _⟩
                rw [← HB.out, HP.out]
                have := HM.out.set (i + n) (.int .i64 (bit (s + X * 2 ^ i) (i + n)))
                rw [iv_set, mixL_set _ _ (by have := HP.out; omega)] at this
                exact this
              case measure => simp [RowKit.intOf]; omega
            · have hx0 : bit X n = 0 := by
                have h1 := HXM.out
                have h2 : X < 2 ^ m := by
                  by_cases h : X < 2 ^ m
                  · exact h
                  · exfalso
                    have := Int.ediv_le_ediv (p2_pos m) (Int.not_lt.1 h)
                    rw [Int.ediv_self (by have := p2_pos m; omega)] at this
                    omega
                have h3 := p2_mono (i := m) (j := n) (by omega)
                unfold bit
                rw [div_small HS.out.x0 (by omega)]; rfl
              have hc1 : cb = 1 := by omega
              subst hc1
              rw [hx0, Int.add_zero] at HC HB
              clear hgo hx0 b2 b3
              go_wp2
              go_roundw
              case rel =>
                refine ⟨n + 1, by have := HP.out; omega, by go_num, by rw [HC.out], ?_, hU.setCell (by simp) _⟩
                rw [← HB.out, HP.out]
                have := HM.out.set (i + n) (.int .i64 (bit (s + X * 2 ^ i) (i + n)))
                rw [iv_set, mixL_set _ _ (by have := HP.out; omega)] at this
                exact this
              case measure => simp [RowKit.intOf]; omega
          · have hnm : ¬ n < m := fun h => hgo (.inl h)
            have hc0 : mcarry s X i n = 0 := by
              have : ¬ 0 < mcarry s X i n := fun h => hgo (.inr h)
              omega
            have hend : mixL s (s + X * 2 ^ i) 1040 (i + n) = bitsL (s + X * 2 ^ i) 1040 := mixL_end _ _ _ fun j hj => mcarry_end hc0 (by
              have h1 := HXM.out
              have h2 : X < 2 ^ m := by
                by_cases h : X < 2 ^ m
                · exact h
                · exfalso
                  have := Int.ediv_le_ediv (p2_pos m) (Int.not_lt.1 h)
                  rw [Int.ediv_self (by have := p2_pos m; omega)] at this
                  omega
              have h3 := p2_mono (i := m) (j := n) (by omega)
              exact div_small HS.out.x0 (by omega)) hj
            rw [hend, HE.out] at hM
            rw [hc0]
            clear hend hc0 hgo b3
            go_wp2
            go_roundw
            case rel => exact ⟨i + 1, by omega, by go_num, hM, hU⟩
            case measure => simp [RowKit.intOf]; omega
    · obtain rfl : i = 520 := by omega
      rw [mod_all HS.out.y0 HS.out.y1] at hG
      have jA := hA.below hV lA; have jC := hC.below hV lC; have jR := hR.below hV lR
      have jW := hW.trans (hV.mono hW.size)
      clear j6 j7 q6 q7 f7 hB6 hB7
      have n1 := jA.lt; have n2 := jC.lt; have n3 := jR.lt
      have a0 := (jA).cell 0; have a1 := (jA).cell 1; have a2 := (jA).cell 2; have a3 := (jA).cell 3; have a4 := (jA).cell 4; have a5 := (jA).cell 5; have a6 := (jA).cell 6; have a7 := (jA).cell 7; have af := (jA).free
      simp only [List.getElem?_cons_zero, List.getElem?_cons_succ] at a0 a1 a2 a3 a4 a5 a6 a7
      have c0 := (jC).cell 0; have c1 := (jC).cell 1; have c2 := (jC).cell 2; have c3 := (jC).cell 3; have c4 := (jC).cell 4; have c5 := (jC).cell 5; have c6 := (jC).cell 6; have c7 := (jC).cell 7; have cf := (jC).free
      simp only [List.getElem?_cons_zero, List.getElem?_cons_succ] at c0 c1 c2 c3 c4 c5 c6 c7
      by_cases hd : decide (x < 0) = decide (y < 0)
      · have HX2 := Lib.hid (HXY.out.trans (if_pos hd))
        have HD := Lib.hid hd
        clear hd
        generalize hdx : decide (x < 0) = dx at *
        have HDX := Lib.hid hdx
        clear hdx
        go_wp2
        refine wp_region_ph [(5, .free [])] (by kernel_rfl) (by kernel_rfl) ?_
        refine Ph.belowd ?_
        simp only [List.drop_succ_cons, List.drop_zero, List.take_succ_cons, List.take_zero, Nat.reduceSub, Nat.sub_zero]
        iterate 1 (refine SeqO.val (v := ?_) (by rfl) (by rfl) (fun w1 hS => ?_) ?_; rotate_left; (· obtain ⟨hc, hcf⟩ := bcell hS; go_simp; try with_reducible rfl); simp only [Act.put, List.setIfInBounds_toArray, List.set_cons_zero, List.set_cons_succ])
        refine SeqO.callv (by rfl) (by rfl) (by rfl) cf134 (by simp [Act.eval]) (fun w1 hS => (belowB (mid_fits HX.out) w1).eq (by rw [HDX.out])) ?_
        simp only [Act.put, List.setIfInBounds_toArray, List.set_cons_zero, List.set_cons_succ]
        iterate 1 (refine SeqO.val (v := ?_) (by rfl) (by rfl) (fun w1 hS => ?_) ?_; rotate_left; (· obtain ⟨hc, hcf⟩ := bcell hS; go_simp; try with_reducible rfl); simp only [Act.put, List.setIfInBounds_toArray, List.set_cons_zero, List.set_cons_succ])
        refine SeqO.callv (by rfl) (by rfl) (by rfl) cf134 (by simp [Act.eval]) (fun w1 hS => (belowB (mid_fits HY.out) w1).eq (by rw [← HD.out])) ?_
        simp only [Act.put, List.setIfInBounds_toArray, List.set_cons_zero, List.set_cons_succ]
        iterate 1 (refine SeqO.val (v := ?_) (by rfl) (by rfl) (fun w1 hS => ?_) ?_; rotate_left; (· obtain ⟨hc, hcf⟩ := bcell hS; go_simp; try with_reducible rfl); simp only [Act.put, List.setIfInBounds_toArray, List.set_cons_zero, List.set_cons_succ])
        refine SeqO.nil0 fun w5 hS => ?_
        have jG := hG.step hS; have jR := jR.step hS; have jW := jW.trans (hS.mono jW.size)
        refine Ph.last ?_
        simp only [List.drop_succ_cons, List.drop_zero, List.take_succ_cons, List.take_zero, Nat.reduceSub, Nat.sub_zero]
        clear a0 a1 a2 a3 a4 a5 a6 a7 af
        clear c0 c1 c2 c3 c4 c5 c6 c7 cf
        clear hS hG jA jC n1 n2 n3 q9
        go_wp2_with fail
        refine (ofB (x := X * Y) (by rw [← HX2.out]; exact fits_mul HX.out HY.out) 1040 w3.heap.size (by omega) (by omega) _ jG).mono ?_
        rintro e w6 ⟨rfl, hS⟩
        have jR := jR.step hS; have jW := jW.trans (hS.mono jW.size)
        clear hS jG
        have n3 := jR.lt
        have q0 := (jR).cell 0; have q1 := (jR).cell 1; have q2 := (jR).cell 2; have q3 := (jR).cell 3; have q4 := (jR).cell 4; have q5 := (jR).cell 5; have q6 := (jR).cell 6; have q7 := (jR).cell 7; have qf := (jR).free
        simp only [List.getElem?_cons_zero, List.getElem?_cons_succ] at q0 q1 q2 q3 q4 q5 q6 q7
        go_wp2
        rw [HX2.out]
        exact bodyPost_ret (v := .tuple #[.agg #[.int .u64 (w8 (X * Y)).a, .int .u64 (w8 (X * Y)).b, .int .u64 (w8 (X * Y)).c, .int .u64 (w8 (X * Y)).d, .int .u64 (w8 (X * Y)).e, .int .u64 (w8 (X * Y)).f, .int .u64 (w8 (X * Y)).g, .int .u64 (w8 (X * Y)).h], .bool true]) (by simp [results, Tryz.results130, go_sem, *]) rfl ⟨rfl, ((((((((jW).setCell (by first | omega | (simp; done) | (simp; omega)) _).setCell (by first | omega | (simp; done) | (simp; omega)) _).setCell (by first | omega | (simp; done) | (simp; omega)) _).setCell (by first | omega | (simp; done) | (simp; omega)) _).setCell (by first | omega | (simp; done) | (simp; omega)) _).setCell (by first | omega | (simp; done) | (simp; omega)) _).setCell (by first | omega | (simp; done) | (simp; omega)) _).setCell (by first | omega | (simp; done) | (simp; omega)) _⟩
      · have HX2 := Lib.hid (HXY.out.trans (if_neg hd))
        have HD := Lib.hid (show decide (y < 0) = !decide (x < 0) by revert hd; generalize decide (x < 0) = p; generalize decide (y < 0) = q; cases p <;> cases q <;> simp)
        clear hd
        generalize hdx : decide (x < 0) = dx at *
        have HDX := Lib.hid hdx
        clear hdx
        cases dx
        all_goals
          go_wp2
          refine wp_region_ph [(5, .free [])] (by kernel_rfl) (by kernel_rfl) ?_
          refine Ph.belowd ?_
          simp only [List.drop_succ_cons, List.drop_zero, List.take_succ_cons, List.take_zero, Nat.reduceSub, Nat.sub_zero]
          iterate 1 (refine SeqO.val (v := ?_) (by rfl) (by rfl) (fun w1 hS => ?_) ?_; rotate_left; (· obtain ⟨hc, hcf⟩ := bcell hS; go_simp; try with_reducible rfl); simp only [Act.put, List.setIfInBounds_toArray, List.set_cons_zero, List.set_cons_succ])
          refine SeqO.callv (by rfl) (by rfl) (by rfl) cf134 (by simp [Act.eval]) (fun w1 hS => (belowB (mid_fits HX.out) w1).eq (by rw [HDX.out])) ?_
          simp only [Act.put, List.setIfInBounds_toArray, List.set_cons_zero, List.set_cons_succ]
          iterate 1 (refine SeqO.val (v := ?_) (by rfl) (by rfl) (fun w1 hS => ?_) ?_; rotate_left; (· obtain ⟨hc, hcf⟩ := bcell hS; go_simp; try with_reducible rfl); simp only [Act.put, List.setIfInBounds_toArray, List.set_cons_zero, List.set_cons_succ])
          refine SeqO.callv (by rfl) (by rfl) (by rfl) cf134 (by simp [Act.eval]) (fun w1 hS => (belowB (mid_fits HY.out) w1).eq (by rw [HD.out])) ?_
          simp only [Act.put, List.setIfInBounds_toArray, List.set_cons_zero, List.set_cons_succ]
          iterate 1 (refine SeqO.val (v := ?_) (by rfl) (by rfl) (fun w1 hS => ?_) ?_; rotate_left; (· obtain ⟨hc, hcf⟩ := bcell hS; go_simp; try with_reducible rfl); simp only [Act.put, List.setIfInBounds_toArray, List.set_cons_zero, List.set_cons_succ])
          refine SeqO.nil0 fun w5 hS => ?_
          have jG := hG.step hS; have jR := jR.step hS; have jW := jW.trans (hS.mono jW.size)
          refine Ph.last ?_
          simp only [List.drop_succ_cons, List.drop_zero, List.take_succ_cons, List.take_zero, Nat.reduceSub, Nat.sub_zero]
          clear a0 a1 a2 a3 a4 a5 a6 a7 af
          clear c0 c1 c2 c3 c4 c5 c6 c7 cf
          clear hS hG jA jC n1 n2 n3 q9
          go_wp2_with fail
          refine Calls.mono (minusB (X * Y) 1040 w3.heap.size (by omega) _ jG) ?_
          rintro e w6 ⟨_, rfl, ⟨g8, rfl, hge8, hB8⟩, hS⟩
          have jR := jR.step hS; have jW := jW.trans (hS.mono jW.size)
          clear hS jG
          go_wp2_with fail
          refine (ofB (x := -(X * Y)) (by rw [← HX2.out]; exact fits_mul HX.out HY.out) 1040 g8 (by omega) (by omega) _ hB8).mono ?_
          rintro e w7 ⟨rfl, hS⟩
          have jR := jR.step hS; have jW := jW.trans (hS.mono jW.size)
          clear hS hB8
          have n3 := jR.lt
          have q0 := (jR).cell 0; have q1 := (jR).cell 1; have q2 := (jR).cell 2; have q3 := (jR).cell 3; have q4 := (jR).cell 4; have q5 := (jR).cell 5; have q6 := (jR).cell 6; have q7 := (jR).cell 7; have qf := (jR).free
          simp only [List.getElem?_cons_zero, List.getElem?_cons_succ] at q0 q1 q2 q3 q4 q5 q6 q7
          go_wp2
          rw [HX2.out]
          exact bodyPost_ret (v := .tuple #[.agg #[.int .u64 (w8 (-(X * Y))).a, .int .u64 (w8 (-(X * Y))).b, .int .u64 (w8 (-(X * Y))).c, .int .u64 (w8 (-(X * Y))).d, .int .u64 (w8 (-(X * Y))).e, .int .u64 (w8 (-(X * Y))).f, .int .u64 (w8 (-(X * Y))).g, .int .u64 (w8 (-(X * Y))).h], .bool true]) (by simp [results, Tryz.results130, go_sem, *]) rfl ⟨rfl, ((((((((jW).setCell (by first | omega | (simp; done) | (simp; omega)) _).setCell (by first | omega | (simp; done) | (simp; omega)) _).setCell (by first | omega | (simp; done) | (simp; omega)) _).setCell (by first | omega | (simp; done) | (simp; omega)) _).setCell (by first | omega | (simp; done) | (simp; omega)) _).setCell (by first | omega | (simp; done) | (simp; omega)) _).setCell (by first | omega | (simp; done) | (simp; omega)) _).setCell (by first | omega | (simp; done) | (simp; omega)) _⟩
end Go.Proofs.YtbcjnckejkjfeaaGreat
namespace Go.Proofs.YtbcjnckejkjfeaaGreat
set_option linter.unusedVariables false
set_option linter.unusedSimpArgs false
open Go.RowKit Go.NP
theorem cf112 (args : Array Value) (w1 : World) : (callFunc 112 args).run Tryz.prog w1 = .ok (.enter 112 args) w1 := enters Tryz.func112 (by kernel_rfl) (by kernel_rfl) args w1
theorem cf113 (args : Array Value) (w1 : World) : (callFunc 113 args).run Tryz.prog w1 = .ok (.enter 113 args) w1 := enters Tryz.func113 (by kernel_rfl) (by kernel_rfl) args w1
theorem i63_mid {x : Int} (h : i63 x) : mid x := by
  obtain ⟨h0, h1⟩ := h
  have := p2_mono (i := 63) (j := 250) (by omega)
  have e : (2 : Int) ^ 63 = 9223372036854775808 := by decide
  exact ⟨by omega, by omega⟩
theorem below_alloc {W w : World} (h : Below W.heap.size W w) (o : Obj) : Below W.heap.size W (w.alloc o) := h.alloc h.size o
set_option maxHeartbeats 2000000 in
theorem plusW {x y : Int} (hx : fits x) (hy : fits y) (hxy : fits (x + y)) (w : World) : RetB Tryz.prog 111 #[.agg #[.int .u64 (w8 x).a, .int .u64 (w8 x).b, .int .u64 (w8 x).c, .int .u64 (w8 x).d, .int .u64 (w8 x).e, .int .u64 (w8 x).f, .int .u64 (w8 x).g, .int .u64 (w8 x).h], .agg #[.int .u64 (w8 y).a, .int .u64 (w8 y).b, .int .u64 (w8 y).c, .int .u64 (w8 y).d, .int .u64 (w8 y).e, .int .u64 (w8 y).f, .int .u64 (w8 y).g, .int .u64 (w8 y).h]] w (.agg #[.int .u64 (w8 (x + y)).a, .int .u64 (w8 (x + y)).b, .int .u64 (w8 (x + y)).c, .int .u64 (w8 (x + y)).d, .int .u64 (w8 (x + y)).e, .int .u64 (w8 (x + y)).f, .int .u64 (w8 (x + y)).g, .int .u64 (w8 (x + y)).h]) := by
  have H := Lib.hid (fun w => addB hx hy hxy w)
  clear hx hy hxy
  unfold RetB
  go_enter Tryz.func111, Tryz.ntmps111
  go_wp2_with fail
  refine (H.out _).mono ?_
  rintro e w1 ⟨rfl, hS⟩
  have hR : Box w1 (w.heap.size + 1 + 1) [.int .u64 0, .int .u64 0, .int .u64 0, .int .u64 0, .int .u64 0, .int .u64 0, .int .u64 0, .int .u64 0] 127 := (Box.new (by simp)).step hS
  have hW : Below w.heap.size w w1 := ((((Below.refl _ _).alloc (Nat.le_refl _) _).alloc (by simp) _).alloc (by simp; omega) _).trans (hS.mono (by simp; omega))
  have l0 := hR.lt
  have q0 := (hR).cell 0; have q1 := (hR).cell 1; have q2 := (hR).cell 2; have q3 := (hR).cell 3; have q4 := (hR).cell 4; have q5 := (hR).cell 5; have q6 := (hR).cell 6; have q7 := (hR).cell 7; have qf := (hR).free
  simp only [List.getElem?_cons_zero, List.getElem?_cons_succ] at q0 q1 q2 q3 q4 q5 q6 q7
  clear hS
  go_wp2
  exact bodyPost_ret (v := .agg #[.int .u64 (w8 (x + y)).a, .int .u64 (w8 (x + y)).b, .int .u64 (w8 (x + y)).c, .int .u64 (w8 (x + y)).d, .int .u64 (w8 (x + y)).e, .int .u64 (w8 (x + y)).f, .int .u64 (w8 (x + y)).g, .int .u64 (w8 (x + y)).h]) (by simp [results, Tryz.results111, go_sem, *]) rfl ⟨rfl, below_alloc (((((((((hW).setCell (by first | omega | (simp; done) | (simp; omega)) _).setCell (by first | omega | (simp; done) | (simp; omega)) _).setCell (by first | omega | (simp; done) | (simp; omega)) _).setCell (by first | omega | (simp; done) | (simp; omega)) _).setCell (by first | omega | (simp; done) | (simp; omega)) _).setCell (by first | omega | (simp; done) | (simp; omega)) _).setCell (by first | omega | (simp; done) | (simp; omega)) _).setCell (by first | omega | (simp; done) | (simp; omega)) _) _⟩
set_option maxHeartbeats 2000000 in
theorem timesW {x y : Int} (hx : mid x) (hy : mid y) (w : World) : RetB Tryz.prog 121 #[.agg #[.int .u64 (w8 x).a, .int .u64 (w8 x).b, .int .u64 (w8 x).c, .int .u64 (w8 x).d, .int .u64 (w8 x).e, .int .u64 (w8 x).f, .int .u64 (w8 x).g, .int .u64 (w8 x).h], .agg #[.int .u64 (w8 y).a, .int .u64 (w8 y).b, .int .u64 (w8 y).c, .int .u64 (w8 y).d, .int .u64 (w8 y).e, .int .u64 (w8 y).f, .int .u64 (w8 y).g, .int .u64 (w8 y).h]] w (.agg #[.int .u64 (w8 (x * y)).a, .int .u64 (w8 (x * y)).b, .int .u64 (w8 (x * y)).c, .int .u64 (w8 (x * y)).d, .int .u64 (w8 (x * y)).e, .int .u64 (w8 (x * y)).f, .int .u64 (w8 (x * y)).g, .int .u64 (w8 (x * y)).h]) := by
  have H := Lib.hid (fun w => mulB hx hy w)
  clear hx hy
  unfold RetB
  go_enter Tryz.func121, Tryz.ntmps121
  go_wp2_with fail
  refine (H.out _).mono ?_
  rintro e w1 ⟨rfl, hS⟩
  have hR : Box w1 (w.heap.size + 1 + 1) [.int .u64 0, .int .u64 0, .int .u64 0, .int .u64 0, .int .u64 0, .int .u64 0, .int .u64 0, .int .u64 0] 127 := (Box.new (by simp)).step hS
  have hW : Below w.heap.size w w1 := ((((Below.refl _ _).alloc (Nat.le_refl _) _).alloc (by simp) _).alloc (by simp; omega) _).trans (hS.mono (by simp; omega))
  have l0 := hR.lt
  have q0 := (hR).cell 0; have q1 := (hR).cell 1; have q2 := (hR).cell 2; have q3 := (hR).cell 3; have q4 := (hR).cell 4; have q5 := (hR).cell 5; have q6 := (hR).cell 6; have q7 := (hR).cell 7; have qf := (hR).free
  simp only [List.getElem?_cons_zero, List.getElem?_cons_succ] at q0 q1 q2 q3 q4 q5 q6 q7
  clear hS
  go_wp2
  exact bodyPost_ret (v := .agg #[.int .u64 (w8 (x * y)).a, .int .u64 (w8 (x * y)).b, .int .u64 (w8 (x * y)).c, .int .u64 (w8 (x * y)).d, .int .u64 (w8 (x * y)).e, .int .u64 (w8 (x * y)).f, .int .u64 (w8 (x * y)).g, .int .u64 (w8 (x * y)).h]) (by simp [results, Tryz.results121, go_sem, *]) rfl ⟨rfl, below_alloc (((((((((hW).setCell (by first | omega | (simp; done) | (simp; omega)) _).setCell (by first | omega | (simp; done) | (simp; omega)) _).setCell (by first | omega | (simp; done) | (simp; omega)) _).setCell (by first | omega | (simp; done) | (simp; omega)) _).setCell (by first | omega | (simp; done) | (simp; omega)) _).setCell (by first | omega | (simp; done) | (simp; omega)) _).setCell (by first | omega | (simp; done) | (simp; omega)) _).setCell (by first | omega | (simp; done) | (simp; omega)) _) _⟩
set_option maxHeartbeats 2000000 in
theorem mulW {x y : Int} (hx : i63 x) (hy : i63 y) (w : World) : RetB Tryz.prog 112 #[.int .i64 x, .int .i64 y] w (.agg #[.int .u64 (w8 (x * y)).a, .int .u64 (w8 (x * y)).b, .int .u64 (w8 (x * y)).c, .int .u64 (w8 (x * y)).d, .int .u64 (w8 (x * y)).e, .int .u64 (w8 (x * y)).f, .int .u64 (w8 (x * y)).g, .int .u64 (w8 (x * y)).h]) := by
  have H1 := Lib.hid (fun w => smallB hx w)
  have H2 := Lib.hid (fun w => smallB hy w)
  have H := Lib.hid (fun w => timesW (i63_mid hx) (i63_mid hy) w)
  clear hx hy
  unfold RetB
  go_enter Tryz.func112, Tryz.ntmps112
  go_wp2_with fail
  refine (H1.out _).mono ?_
  rintro e w1 ⟨rfl, hS⟩
  have hR : Box w1 w.heap.size [.int .u64 0, .int .u64 0, .int .u64 0, .int .u64 0, .int .u64 0, .int .u64 0, .int .u64 0, .int .u64 0] 127 := (Box.new rfl).step hS
  have hW : Below w.heap.size w w1 := ((Below.refl _ _).alloc (Nat.le_refl _) _).trans (hS.mono (by simp))
  clear hS
  go_wp2_with fail
  refine (H2.out _).mono ?_
  rintro e w2 ⟨rfl, hS⟩
  have hR := hR.step hS
  have hW := hW.trans (hS.mono hW.size)
  clear hS
  go_wp2_with fail
  refine (H.out _).mono ?_
  rintro e w3 ⟨rfl, hS⟩
  have hR := hR.step hS
  have hW := hW.trans (hS.mono hW.size)
  clear hS
  have l0 := hR.lt
  have q0 := (hR).cell 0; have q1 := (hR).cell 1; have q2 := (hR).cell 2; have q3 := (hR).cell 3; have q4 := (hR).cell 4; have q5 := (hR).cell 5; have q6 := (hR).cell 6; have q7 := (hR).cell 7; have qf := (hR).free
  simp only [List.getElem?_cons_zero, List.getElem?_cons_succ] at q0 q1 q2 q3 q4 q5 q6 q7
  go_wp2
  exact bodyPost_ret (v := .agg #[.int .u64 (w8 (x * y)).a, .int .u64 (w8 (x * y)).b, .int .u64 (w8 (x * y)).c, .int .u64 (w8 (x * y)).d, .int .u64 (w8 (x * y)).e, .int .u64 (w8 (x * y)).f, .int .u64 (w8 (x * y)).g, .int .u64 (w8 (x * y)).h]) (by simp [results, Tryz.results112, go_sem, *]) rfl ⟨rfl, ((((((((hW).setCell (by first | omega | (simp; done) | (simp; omega)) _).setCell (by first | omega | (simp; done) | (simp; omega)) _).setCell (by first | omega | (simp; done) | (simp; omega)) _).setCell (by first | omega | (simp; done) | (simp; omega)) _).setCell (by first | omega | (simp; done) | (simp; omega)) _).setCell (by first | omega | (simp; done) | (simp; omega)) _).setCell (by first | omega | (simp; done) | (simp; omega)) _).setCell (by first | omega | (simp; done) | (simp; omega)) _⟩
/-- Small numbers. -/
def sm (n : Int) : Prop := -1073741824 ≤ n ∧ n ≤ 1073741824
theorem sm_63 {n : Int} (h : sm n) : i63 n := by unfold sm i63 at *; omega
theorem sm_mul {a b : Int} (ha : sm a) (hb : sm b) : -1152921504606846976 ≤ a * b ∧ a * b ≤ 1152921504606846976 := by
  have h : ((a * b).natAbs : Int) ≤ 1152921504606846976 := by
    rw [Int.natAbs_mul]
    have h1 : (a.natAbs : Int) ≤ 1073741824 := by unfold sm at ha; omega
    have h2 : (b.natAbs : Int) ≤ 1073741824 := by unfold sm at hb; omega
    have : (a.natAbs : Int) * (b.natAbs : Int) ≤ 1073741824 * 1073741824 := Int.mul_le_mul h1 h2 (by omega) (by decide)
    simpa using this
  omega
def within (lo hi f t n d : Int) : Bool := decide (lo * d ≤ f * d + (t - f) * n) && decide (f * d + (t - f) * n ≤ hi * d)
theorem cmpI_le {x y : Int} : decide (cmpI x y ≤ 0) = decide (x ≤ y) := by
  apply decide_eq_decide.2
  unfold cmpI
  split
  · omega
  · split <;> omega
set_option maxRecDepth 100000 in
set_option maxHeartbeats 4000000 in
theorem atW {lo hi f t n d : Int} (h1 : sm lo) (h2 : sm hi) (h3 : sm f) (h4 : sm (t - f)) (h4t : sm t) (h5 : sm n) (h6 : sm d) (w : World) :
    RetB Tryz.prog 89 #[.int .i64 f, .int .i64 t, .int .i64 lo, .int .i64 hi, .int .i64 n, .int .i64 d] w (.bool (within lo hi f t n d)) := by
  have a1 := sm_mul h3 h6; have a2 := sm_mul h4 h5; have a3 := sm_mul h1 h6; have a4 := sm_mul h2 h6
  have C1 := Lib.hid (fun w => mulW (sm_63 h3) (sm_63 h6) w)
  have C2 := Lib.hid (fun w => mulW (sm_63 h4) (sm_63 h5) w)
  have C3 := Lib.hid (fun w => plusW (mid_fits (i63_mid (x := f * d) (by unfold i63; omega))) (mid_fits (i63_mid (x := (t - f) * n) (by unfold i63; omega))) (mid_fits (i63_mid (x := f * d + (t - f) * n) (by unfold i63; omega))) w)
  have C4 := Lib.hid (fun w => mulW (sm_63 h1) (sm_63 h6) w)
  have C5 := Lib.hid (fun w => mulW (sm_63 h2) (sm_63 h6) w)
  have C6 := Lib.hid (fun w => cmpB (x := lo * d) (y := f * d + (t - f) * n) (i63_mid (by unfold i63; omega)) (i63_mid (by unfold i63; omega)) w)
  have C7 := Lib.hid (fun w => cmpB (x := f * d + (t - f) * n) (y := hi * d) (i63_mid (by unfold i63; omega)) (i63_mid (by unfold i63; omega)) w)
  have E1 := Lib.hid (cmpI_le (x := lo * d) (y := f * d + (t - f) * n))
  have E2 := Lib.hid (cmpI_le (x := f * d + (t - f) * n) (y := hi * d))
  have HR := Lib.hid (show within lo hi f t n d = (decide (lo * d ≤ f * d + (t - f) * n) && decide (f * d + (t - f) * n ≤ hi * d)) from rfl)
  have hw : IntKind.i64.wrap (t - f) = t - f := IntWalk.i64_in _ (by unfold sm at h4; omega)
  obtain ⟨b1, b2⟩ := h3; obtain ⟨b3, b4⟩ := h4t
  clear a1 a2 a3 a4 h1 h2 h4 h5 h6
  generalize f * d + (t - f) * n = x at *
  generalize hl : lo * d = l at *
  generalize hh : hi * d = h at *
  have HL := Lib.hid hl; have HH := Lib.hid hh
  clear hl hh
  unfold RetB
  go_enter Tryz.func89, Tryz.ntmps89
  go_wp2_with fail
  refine (C1.out _).mono ?_
  rintro e w1 ⟨rfl, hW⟩
  go_wp2_with fail
  refine (C2.out _).mono ?_
  rintro e w2 ⟨rfl, hS⟩
  have hW := hW.trans (hS.mono hW.size)
  clear hS
  go_wp2_with fail
  refine (C3.out _).mono ?_
  rintro e w3 ⟨rfl, hS⟩
  have hW := hW.trans (hS.mono hW.size)
  clear hS
  go_wp2_with fail
  have hB : Box (w3.alloc (.cells [.int .u64 (w8 x).a, .int .u64 (w8 x).b, .int .u64 (w8 x).c, .int .u64 (w8 x).d, .int .u64 (w8 x).e, .int .u64 (w8 x).f, .int .u64 (w8 x).g, .int .u64 (w8 x).h].toArray 127)) w3.heap.size [.int .u64 (w8 x).a, .int .u64 (w8 x).b, .int .u64 (w8 x).c, .int .u64 (w8 x).d, .int .u64 (w8 x).e, .int .u64 (w8 x).f, .int .u64 (w8 x).g, .int .u64 (w8 x).h] 127 := Box.new rfl
  have hW := hW.alloc hW.size (.cells [.int .u64 (w8 x).a, .int .u64 (w8 x).b, .int .u64 (w8 x).c, .int .u64 (w8 x).d, .int .u64 (w8 x).e, .int .u64 (w8 x).f, .int .u64 (w8 x).g, .int .u64 (w8 x).h].toArray 127)
  revert hB hW
  generalize w3.alloc (.cells [.int .u64 (w8 x).a, .int .u64 (w8 x).b, .int .u64 (w8 x).c, .int .u64 (w8 x).d, .int .u64 (w8 x).e, .int .u64 (w8 x).f, .int .u64 (w8 x).g, .int .u64 (w8 x).h].toArray 127) = w4
  generalize w3.heap.size = n3 at *
  intro hB hW
  have l0 := hB.lt
  have q0 := (hB).cell 0; have q1 := (hB).cell 1; have q2 := (hB).cell 2; have q3 := (hB).cell 3; have q4 := (hB).cell 4; have q5 := (hB).cell 5; have q6 := (hB).cell 6; have q7 := (hB).cell 7; have qf := (hB).free
  simp only [List.getElem?_cons_zero, List.getElem?_cons_succ] at q0 q1 q2 q3 q4 q5 q6 q7
  generalize hr1 : cmpI l x = r1 at *
  generalize hr2 : cmpI x h = r2 at *
  clear hr1 hr2
  obtain ⟨p1, hp1⟩ : ∃ p, decide (l ≤ x) = p := ⟨_, rfl⟩
  obtain ⟨p2, hp2⟩ : ∃ p, decide (x ≤ h) = p := ⟨_, rfl⟩
  have e1 := E1.out.trans hp1
  have e2 := E2.out.trans hp2
  have HR2 := Lib.hid (show within lo hi f t n d = (p1 && p2) by rw [HR.out, hp1, hp2])
  clear hp1 hp2
  cases p1
  · refine wp_region_ph [(14, .free [])] (by kernel_rfl) (by kernel_rfl) ?_
    refine Ph.belowd ?_
    simp only [List.drop_succ_cons, List.drop_zero, List.take_succ_cons, List.take_zero, Nat.reduceSub, Nat.sub_zero]
    iterate 2 (refine SeqO.val (v := ?_) (by rfl) (by rfl) (fun w1 hS => ?_) ?_; rotate_left; (· obtain ⟨hc, hcf⟩ := bcell hS; go_simp; try with_reducible rfl); simp only [Act.put, List.setIfInBounds_toArray, List.set_cons_zero, List.set_cons_succ])
    refine SeqO.callv (by rfl) (by rfl) (by rfl) cf112 (by simp [Act.eval]) (fun w1 hS => (C4.out w1)) ?_
    simp only [Act.put, List.setIfInBounds_toArray, List.set_cons_zero, List.set_cons_succ]
    iterate 1 (refine SeqO.val (v := ?_) (by rfl) (by rfl) (fun w1 hS => ?_) ?_; rotate_left; (· obtain ⟨hc, hcf⟩ := bcell hS; go_simp; try with_reducible rfl); simp only [Act.put, List.setIfInBounds_toArray, List.set_cons_zero, List.set_cons_succ])
    refine SeqO.callv (by rfl) (by rfl) (by rfl) cf113 (by simp [Act.eval]) (fun w1 hS => (C6.out w1)) ?_
    simp only [Act.put, List.setIfInBounds_toArray, List.set_cons_zero, List.set_cons_succ]
    repeat (first | (refine SeqO.skip (by rfl) (by rfl) ?_; simp only [Act.put, List.setIfInBounds_toArray, List.set_cons_zero, List.set_cons_succ])  | (refine SeqO.val (v := ?_) (by rfl) (by rfl) (fun w1 hS => ?_) ?_; rotate_left; (· obtain ⟨hc, hcf⟩ := bcell hS; go_simp; try with_reducible rfl); simp only [Act.put, List.setIfInBounds_toArray, List.set_cons_zero, List.set_cons_succ]))
    refine SeqO.nil0 fun w5 hS => ?_
    have hW := hW.trans (hS.mono hW.size)
    refine Ph.last ?_
    simp only [List.drop_succ_cons, List.drop_zero, List.take_succ_cons, List.take_zero, Nat.reduceSub, Nat.sub_zero]
    go_wp2
    rw [HR2.out]
    exact bodyPost_ret (v := .bool false) (by simp [results, Tryz.results89, go_sem]) rfl ⟨rfl, hW⟩
  · refine wp_region_ph [(14, .free [])] (by kernel_rfl) (by kernel_rfl) ?_
    refine Ph.belowd ?_
    simp only [List.drop_succ_cons, List.drop_zero, List.take_succ_cons, List.take_zero, Nat.reduceSub, Nat.sub_zero]
    iterate 2 (refine SeqO.val (v := ?_) (by rfl) (by rfl) (fun w1 hS => ?_) ?_; rotate_left; (· obtain ⟨hc, hcf⟩ := bcell hS; go_simp; try with_reducible rfl); simp only [Act.put, List.setIfInBounds_toArray, List.set_cons_zero, List.set_cons_succ])
    refine SeqO.callv (by rfl) (by rfl) (by rfl) cf112 (by simp [Act.eval]) (fun w1 hS => (C4.out w1)) ?_
    simp only [Act.put, List.setIfInBounds_toArray, List.set_cons_zero, List.set_cons_succ]
    iterate 1 (refine SeqO.val (v := ?_) (by rfl) (by rfl) (fun w1 hS => ?_) ?_; rotate_left; (· obtain ⟨hc, hcf⟩ := bcell hS; go_simp; try with_reducible rfl); simp only [Act.put, List.setIfInBounds_toArray, List.set_cons_zero, List.set_cons_succ])
    refine SeqO.callv (by rfl) (by rfl) (by rfl) cf113 (by simp [Act.eval]) (fun w1 hS => (C6.out w1)) ?_
    simp only [Act.put, List.setIfInBounds_toArray, List.set_cons_zero, List.set_cons_succ]
    iterate 5 (refine SeqO.val (v := ?_) (by rfl) (by rfl) (fun w1 hS => ?_) ?_; rotate_left; (· obtain ⟨hc, hcf⟩ := bcell hS; go_simp; try with_reducible rfl); simp only [Act.put, List.setIfInBounds_toArray, List.set_cons_zero, List.set_cons_succ])
    refine SeqO.callv (by rfl) (by rfl) (by rfl) cf112 (by simp [Act.eval]) (fun w1 hS => (C5.out w1)) ?_
    simp only [Act.put, List.setIfInBounds_toArray, List.set_cons_zero, List.set_cons_succ]
    refine SeqO.callv (by rfl) (by rfl) (by rfl) cf113 (by simp [Act.eval]) (fun w1 hS => (C7.out w1)) ?_
    simp only [Act.put, List.setIfInBounds_toArray, List.set_cons_zero, List.set_cons_succ]
    repeat (first | (refine SeqO.skip (by rfl) (by rfl) ?_; simp only [Act.put, List.setIfInBounds_toArray, List.set_cons_zero, List.set_cons_succ])  | (refine SeqO.val (v := ?_) (by rfl) (by rfl) (fun w1 hS => ?_) ?_; rotate_left; (· obtain ⟨hc, hcf⟩ := bcell hS; go_simp; try with_reducible rfl); simp only [Act.put, List.setIfInBounds_toArray, List.set_cons_zero, List.set_cons_succ]))
    refine SeqO.nil0 fun w5 hS => ?_
    have hW := hW.trans (hS.mono hW.size)
    refine Ph.last ?_
    simp only [List.drop_succ_cons, List.drop_zero, List.take_succ_cons, List.take_zero, Nat.reduceSub, Nat.sub_zero]
    go_wp2
    rw [HR2.out]
    exact bodyPost_ret (v := .bool p2) (by simp [results, Tryz.results89, go_sem]) rfl ⟨rfl, hW⟩
end Go.Proofs.YtbcjnckejkjfeaaGreat
