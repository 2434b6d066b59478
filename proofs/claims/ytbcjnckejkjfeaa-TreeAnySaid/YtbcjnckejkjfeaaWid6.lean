/- Integers of 512 bits as eight words: products. No condition. -/
import Derived.Test.YtbcjnckejkjfeaaWid5
import Derived.Recover
namespace Go.Proofs.Ytbcjnckejkjfeaa
set_option linter.unusedVariables false
set_option linter.unusedSimpArgs false
open Go.RowKit Go.NP
theorem cf91 (args : Array Value) (w1 : World) : (callFunc 91 args).run Try.prog w1 = .ok (.enter 91 args) w1 := enters Try.func91 (by kernel_rfl) (by kernel_rfl) args w1
theorem cf72 (args : Array Value) (w1 : World) : (callFunc 72 args).run Try.prog w1 = .ok (.enter 72 args) w1 := enters Try.func72 (by kernel_rfl) (by kernel_rfl) args w1
def m32 (x : Int) : Int := bits .and .u64 x 4294967295
def hiA (x y : Int) : Int := IntKind.u64.wrap (m32 x * m32 y)
def hiT (x y : Int) : Int := IntKind.u64.wrap (IntKind.u64.wrap (x / 4294967296 * m32 y) + hiA x y / 4294967296)
def hiB (x y : Int) : Int := IntKind.u64.wrap (m32 (hiT x y) + IntKind.u64.wrap (m32 x * (y / 4294967296)))
def hiR (x y : Int) : Int := IntKind.u64.wrap (IntKind.u64.wrap (IntKind.u64.wrap (x / 4294967296 * (y / 4294967296)) + hiT x y / 4294967296) + hiB x y / 4294967296)
def loR (x y : Int) : Int := IntKind.u64.wrap (x * y)
set_option maxRecDepth 100000 in
set_option maxHeartbeats 400000 in
theorem mul64C (x y : Int) (w : World) : Calls Try.prog 91 #[.int .u64 x, .int .u64 y] w fun e w' => e = .returned (.tuple #[.int .u64 (hiR x y), .int .u64 (loR x y)]) ∧ w' = w := by
  go_enter Try.func91, Try.ntmps91
  go_wp2
  go_ret2
  exact ⟨rfl, rfl⟩
theorem m32_eq {x : Int} (h : isW x) : m32 x = x % 4294967296 :=
  bits_mask .u64 64 (by decide) (fun n h0 h1 => by rw [IntKind.wrap_u64]; omega) 32 (by decide) x h.1 h.2
theorem wr_id {n : Int} (h0 : 0 ≤ n) (h1 : n < 18446744073709551616) : IntKind.u64.wrap n = n := by rw [IntKind.wrap_u64]; omega
theorem mul_lt {a b m : Int} (h0 : 0 ≤ a) (h1 : a < 4294967296) (h2 : 0 ≤ b) (h3 : b < 4294967296) : 0 ≤ a * b ∧ a * b ≤ 18446744065119617025 := by
  constructor
  · exact Int.mul_nonneg h0 h2
  · have : a * b ≤ 4294967295 * 4294967295 := Int.mul_le_mul (by omega) (by omega) h2 (by decide)
    omega
theorem mul64_eq {x y : Int} (hx : isW x) (hy : isW y) : hiR x y = x * y / 18446744073709551616 ∧ loR x y = x * y % 18446744073709551616 := by
  obtain ⟨x0, x1⟩ := hx
  obtain ⟨y0, y1⟩ := hy
  refine ⟨?_, by unfold loR; rw [IntKind.wrap_u64]⟩
  have ex : x = x / 4294967296 * 4294967296 + x % 4294967296 := by omega
  have ey : y = y / 4294967296 * 4294967296 + y % 4294967296 := by omega
  unfold hiR hiB hiT hiA
  rw [m32_eq ⟨x0, x1⟩, m32_eq ⟨y0, y1⟩]
  generalize ha : x / 4294967296 = a at *
  generalize hb : x % 4294967296 = b at *
  generalize hc : y / 4294967296 = c at *
  generalize hd : y % 4294967296 = d at *
  have a0 : 0 ≤ a ∧ a < 4294967296 := by omega
  have b0 : 0 ≤ b ∧ b < 4294967296 := by omega
  have c0 : 0 ≤ c ∧ c < 4294967296 := by omega
  have d0 : 0 ≤ d ∧ d < 4294967296 := by omega
  have hxy : x * y = a * c * 18446744073709551616 + (a * d + b * c) * 4294967296 + b * d := by
    rw [ex, ey]
    simp only [Int.add_mul, Int.mul_add]
    have e1 : a * 4294967296 * (c * 4294967296) = a * c * 18446744073709551616 := by
      rw [Int.mul_assoc, Int.mul_left_comm 4294967296 c, ← Int.mul_assoc]; rfl
    have e2 : a * 4294967296 * d = a * d * 4294967296 := by rw [Int.mul_assoc, Int.mul_comm 4294967296 d, ← Int.mul_assoc]
    have e3 : b * (c * 4294967296) = b * c * 4294967296 := by rw [← Int.mul_assoc]
    rw [e1, e2, e3]; omega
  rw [hxy]
  obtain ⟨p0, p1⟩ := mul_lt (m := 0) b0.1 b0.2 d0.1 d0.2
  obtain ⟨q0, q1⟩ := mul_lt (m := 0) a0.1 a0.2 d0.1 d0.2
  obtain ⟨r0, r1⟩ := mul_lt (m := 0) b0.1 b0.2 c0.1 c0.2
  obtain ⟨s0, s1⟩ := mul_lt (m := 0) a0.1 a0.2 c0.1 c0.2
  generalize b * d = p at *
  generalize a * d = q at *
  generalize b * c = r at *
  generalize a * c = s at *
  clear hxy ex ey ha hb hc hd a0 b0 c0 d0 x0 x1 y0 y1
  rw [wr_id p0 (by omega), wr_id q0 (by omega), wr_id r0 (by omega), wr_id s0 (by omega)]
  rw [wr_id (n := q + p / 4294967296) (by omega) (by omega)]
  rw [m32_eq ⟨by omega, by omega⟩]
  rw [wr_id (n := (q + p / 4294967296) % 4294967296 + r) (by omega) (by omega)]
  rw [wr_id (n := s + (q + p / 4294967296) / 4294967296) (by omega) (by omega)]
  rw [wr_id (by omega) (by omega)]
  omega

theorem mulcC (a b : Addr) (w : World) :
    CallsD Try.prog 89 #[.pointer (some a), .pointer (some b)] .returning w fun e u' w' => e = .returned (.tuple #[]) ∧ u' = .returning ∧ w' = w := by
  refine callsD_of_wpS Try.func89 rfl fun c₀ cs hu => ?_
  apply wpS_seq
  apply wpS_region
  simp [wpOpsS, go_sem, recoverD, hu, Try.ntmps89, Exit.thenS]
  apply wpS_seq
  apply wpS_region
  simp [wpOpsS, go_sem, Exit.thenS]
  refine wpS_cond (t := false) (by simp [Act.eval]) ?_
  simp only [Bool.false_eq_true, if_false]
  refine wpS_of_wp (wp_skip ?_)
  cases c₀
  simp_all [bodyPostS, results, Try.results89]
end Go.Proofs.Ytbcjnckejkjfeaa
