/- Integers of 512 bits as eight words: products. No condition. Integers of 512 bits as eight words: the product of two whose sizes are one word. No condition. Integers of 512 bits as eight words: what the words of small numbers are. No condition. -/
import Derived.Test.YtbcjnckejkjfeaaGreatQar
import Derived.Recover
namespace Go.Proofs.YtbcjnckejkjfeaaGreat
set_option linter.unusedVariables false
set_option linter.unusedSimpArgs false
open Go.RowKit Go.NP
theorem cf106 (args : Array Value) (w1 : World) : (callFunc 106 args).run Tryz.prog w1 = .ok (.enter 106 args) w1 := enters Tryz.func106 (by kernel_rfl) (by kernel_rfl) args w1
theorem cf86 (args : Array Value) (w1 : World) : (callFunc 86 args).run Tryz.prog w1 = .ok (.enter 86 args) w1 := enters Tryz.func86 (by kernel_rfl) (by kernel_rfl) args w1
def m32 (x : Int) : Int := bits .and .u64 x 4294967295
def hiA (x y : Int) : Int := IntKind.u64.wrap (m32 x * m32 y)
def hiT (x y : Int) : Int := IntKind.u64.wrap (IntKind.u64.wrap (x / 4294967296 * m32 y) + hiA x y / 4294967296)
def hiB (x y : Int) : Int := IntKind.u64.wrap (m32 (hiT x y) + IntKind.u64.wrap (m32 x * (y / 4294967296)))
def hiR (x y : Int) : Int := IntKind.u64.wrap (IntKind.u64.wrap (IntKind.u64.wrap (x / 4294967296 * (y / 4294967296)) + hiT x y / 4294967296) + hiB x y / 4294967296)
def loR (x y : Int) : Int := IntKind.u64.wrap (x * y)
set_option maxRecDepth 100000 in
set_option maxHeartbeats 400000 in
theorem mul64C (x y : Int) (w : World) : Calls Tryz.prog 106 #[.int .u64 x, .int .u64 y] w fun e w' => e = .returned (.tuple #[.int .u64 (hiR x y), .int .u64 (loR x y)]) ∧ w' = w := by
  go_enter Tryz.func106, Tryz.ntmps106
  go_wp2
  go_ret2
  exact ⟨rfl, rfl⟩
theorem m32_eq {x : Int} (h : isW x) : m32 x = x % 4294967296 :=
  bits_mask .u64 64 (by decide) (fun n h0 h1 => by rw [IntKind.wrap_u64]; omega) 32 (by decide) x h.1 h.2
theorem wr_id {n : Int} (h0 : 0 ≤ n) (h1 : n < 18446744073709551616) : IntKind.u64.wrap n = n := by rw [IntKind.wrap_u64]; omega
theorem mul_lt {a b m : Int} (h0 : 0 ≤ a) (h1 : a < 4294967296) (h2 : 0 ≤ b) (h3 : b < 4294967296) : 0 ≤ a * b ∧ a * b ≤ 18446744065119617025 := by
  constructor
  · exact Int.mul_nonneg h0 h2
  · have : a * b ≤ 4294967295 * 4294967295 := Int.mul_le_mul (by omega) (by omega) h2 (by decide)
    omega
theorem mul64_eq {x y : Int} (hx : isW x) (hy : isW y) : hiR x y = x * y / 18446744073709551616 ∧ loR x y = x * y % 18446744073709551616 := by
  obtain ⟨x0, x1⟩ := hx
  obtain ⟨y0, y1⟩ := hy
  refine ⟨?_, by unfold loR; rw [IntKind.wrap_u64]⟩
  have ex : x = x / 4294967296 * 4294967296 + x % 4294967296 := by omega
  have ey : y = y / 4294967296 * 4294967296 + y % 4294967296 := by omega
  unfold hiR hiB hiT hiA
  rw [m32_eq ⟨x0, x1⟩, m32_eq ⟨y0, y1⟩]
  generalize ha : x / 4294967296 = a at *
  generalize hb : x % 4294967296 = b at *
  generalize hc : y / 4294967296 = c at *
  generalize hd : y % 4294967296 = d at *
  have a0 : 0 ≤ a ∧ a < 4294967296 := by omega
  have b0 : 0 ≤ b ∧ b < 4294967296 := by omega
  have c0 : 0 ≤ c ∧ c < 4294967296 := by omega
  have d0 : 0 ≤ d ∧ d < 4294967296 := by omega
  have hxy : x * y = a * c * 18446744073709551616 + (a * d + b * c) * 4294967296 + b * d := by
    rw [ex, ey]
    simp only [Int.add_mul, Int.mul_add]
    have e1 : a * 4294967296 * (c * 4294967296) = a * c * 18446744073709551616 := by
      rw [Int.mul_assoc, Int.mul_left_comm 4294967296 c, ← Int.mul_assoc]; rfl
    have e2 : a * 4294967296 * d = a * d * 4294967296 := by rw [Int.mul_assoc, Int.mul_comm 4294967296 d, ← Int.mul_assoc]
    have e3 : b * (c * 4294967296) = b * c * 4294967296 := by rw [← Int.mul_assoc]
    rw [e1, e2, e3]; omega
  rw [hxy]
  obtain ⟨p0, p1⟩ := mul_lt (m := 0) b0.1 b0.2 d0.1 d0.2
  obtain ⟨q0, q1⟩ := mul_lt (m := 0) a0.1 a0.2 d0.1 d0.2
  obtain ⟨r0, r1⟩ := mul_lt (m := 0) b0.1 b0.2 c0.1 c0.2
  obtain ⟨s0, s1⟩ := mul_lt (m := 0) a0.1 a0.2 c0.1 c0.2
  generalize b * d = p at *
  generalize a * d = q at *
  generalize b * c = r at *
  generalize a * c = s at *
  clear hxy ex ey ha hb hc hd a0 b0 c0 d0 x0 x1 y0 y1
  rw [wr_id p0 (by omega), wr_id q0 (by omega), wr_id r0 (by omega), wr_id s0 (by omega)]
  rw [wr_id (n := q + p / 4294967296) (by omega) (by omega)]
  rw [m32_eq ⟨by omega, by omega⟩]
  rw [wr_id (n := (q + p / 4294967296) % 4294967296 + r) (by omega) (by omega)]
  rw [wr_id (n := s + (q + p / 4294967296) / 4294967296) (by omega) (by omega)]
  rw [wr_id (by omega) (by omega)]
  omega

theorem mulcC (a b : Addr) (w : World) :
    CallsD Tryz.prog 104 #[.pointer (some a), .pointer (some b)] .returning w fun e u' w' => e = .returned (.tuple #[]) ∧ u' = .returning ∧ w' = w := by
  refine callsD_of_wpS Tryz.func104 rfl fun c₀ cs hu => ?_
  apply wpS_seq
  apply wpS_region
  simp [wpOpsS, go_sem, recoverD, hu, Tryz.ntmps104, Exit.thenS]
  apply wpS_seq
  apply wpS_region
  simp [wpOpsS, go_sem, Exit.thenS]
  refine wpS_cond (t := false) (by simp [Act.eval]) ?_
  simp only [Bool.false_eq_true, if_false]
  refine wpS_of_wp (wp_skip ?_)
  cases c₀
  simp_all [bodyPostS, results, Tryz.results104]
end Go.Proofs.YtbcjnckejkjfeaaGreat
namespace Go.Proofs.YtbcjnckejkjfeaaGreat
set_option linter.unusedVariables false
set_option linter.unusedSimpArgs false
open Go.RowKit Go.NP
def one8 (p : Int) : L8 := ⟨p, 0, 0, 0, 0, 0, 0, 0⟩
def two8 (p q : Int) : L8 := ⟨p, q, 0, 0, 0, 0, 0, 0⟩
theorem add64_l {x : Int} (h : isW x) (w : World) : (callFunc 107 #[.int .u64 x, .int .u64 0, .int .u64 0]).run Tryz.prog w = .ok (.value (.tuple #[.int .u64 x, .int .u64 0])) w := by
  rw [add64_run x 0 0 h isW0 ⟨by decide, by decide⟩]
  obtain ⟨h0, h1⟩ := h
  unfold s64 c64
  rw [show (x + 0 + 0) % 18446744073709551616 = x by omega, show (x + 0 + 0) / 18446744073709551616 = 0 by omega]
theorem add64_r {x : Int} (h : isW x) (w : World) : (callFunc 107 #[.int .u64 0, .int .u64 x, .int .u64 0]).run Tryz.prog w = .ok (.value (.tuple #[.int .u64 x, .int .u64 0])) w := by
  rw [add64_run 0 x 0 isW0 h ⟨by decide, by decide⟩]
  obtain ⟨h0, h1⟩ := h
  unfold s64 c64
  rw [show (0 + x + 0) % 18446744073709551616 = x by omega, show (0 + x + 0) / 18446744073709551616 = 0 by omega]
theorem mul64B (x y : Int) (w : World) : RetB Tryz.prog 106 #[.int .u64 x, .int .u64 y] w (.tuple #[.int .u64 (hiR x y), .int .u64 (loR x y)]) :=
  (mul64C x y w).mono fun e w' ⟨he, hw⟩ => ⟨he, hw ▸ Below.refl _ _⟩
theorem mul64Z (x : Int) (h : isW x) (w : World) : RetB Tryz.prog 106 #[.int .u64 x, .int .u64 0] w (.tuple #[.int .u64 0, .int .u64 0]) :=
  (mul64B x 0 w).eq (by obtain ⟨h1, h2⟩ := mul64_eq h isW0; rw [h1, h2, Int.mul_zero]; rfl)
theorem hilo_is {p q : Int} (hp : isW p) (hq : isW q) : isW (hiR p q) ∧ isW (loR p q) := by
  obtain ⟨h1, h2⟩ := mul64_eq hp hq
  rw [h1, h2]
  obtain ⟨p0, p1⟩ := hp
  obtain ⟨q0, q1⟩ := hq
  have hm : p * q ≤ 18446744073709551615 * 18446744073709551615 := Int.mul_le_mul (by omega) (by omega) q0 (by decide)
  have h0 : 0 ≤ p * q := Int.mul_nonneg p0 q0
  unfold isW
  generalize p * q = m at *
  omega
structure MulI (W : World) (n g6 g7 g8 : Nat) (x y sx sy l : L8) (w : World) : Prop where
  X : Box w n [.int .u64 x.a, .int .u64 x.b, .int .u64 x.c, .int .u64 x.d, .int .u64 x.e, .int .u64 x.f, .int .u64 x.g, .int .u64 x.h] 127
  Y : Box w (n + 1) [.int .u64 y.a, .int .u64 y.b, .int .u64 y.c, .int .u64 y.d, .int .u64 y.e, .int .u64 y.f, .int .u64 y.g, .int .u64 y.h] 127
  R : Box w (n + 1 + 1) [.int .u64 0, .int .u64 0, .int .u64 0, .int .u64 0, .int .u64 0, .int .u64 0, .int .u64 0, .int .u64 0] 127
  O : Box w (n + 1 + 1 + 1) [.bool false] 4
  A : Box w g6 [.int .u64 sx.a, .int .u64 sx.b, .int .u64 sx.c, .int .u64 sx.d, .int .u64 sx.e, .int .u64 sx.f, .int .u64 sx.g, .int .u64 sx.h] 146
  B : Box w g7 [.int .u64 sy.a, .int .u64 sy.b, .int .u64 sy.c, .int .u64 sy.d, .int .u64 sy.e, .int .u64 sy.f, .int .u64 sy.g, .int .u64 sy.h] 146
  C : Box w g8 [.int .u64 l.a, .int .u64 l.b, .int .u64 l.c, .int .u64 l.d, .int .u64 l.e, .int .u64 l.f, .int .u64 l.g, .int .u64 l.h] 146
  W : Below W.heap.size W w
theorem MulI.step {W : World} {n g6 g7 g8 : Nat} {x y sx sy l : L8} {w w' : World} (h : MulI W n g6 g7 g8 x y sx sy l w) (hb : Below w.heap.size w w') : MulI W n g6 g7 g8 x y sx sy l w' :=
  ⟨h.X.step hb, h.Y.step hb, h.R.step hb, h.O.step hb, h.A.step hb, h.B.step hb, h.C.step hb, h.W.trans (hb.mono h.W.size)⟩
structure MulD (n g6 g7 g8 : Nat) : Prop where
  a : n + 3 < g6
  b : n + 3 < g7
  c : n + 3 < g8
  d : g8 ≠ g6
  e : g8 ≠ g7
theorem MulI.put {W : World} {n g6 g7 g8 : Nat} {x y sx sy l l' : L8} {w : World} (h : MulI W n g6 g7 g8 x y sx sy l w) (hd : MulD n g6 g7 g8) (hn : W.heap.size ≤ n) {j : Nat} {v : Value} (hl : ([.int .u64 l.a, .int .u64 l.b, .int .u64 l.c, .int .u64 l.d, .int .u64 l.e, .int .u64 l.f, .int .u64 l.g, .int .u64 l.h] : List Value).set j v = [.int .u64 l'.a, .int .u64 l'.b, .int .u64 l'.c, .int .u64 l'.d, .int .u64 l'.e, .int .u64 l'.f, .int .u64 l'.g, .int .u64 l'.h]) :
    MulI W n g6 g7 g8 x y sx sy l' (w.setCell ⟨g8, j, none⟩ v) := by
  obtain ⟨a, b, c, d, e⟩ := hd
  exact ⟨h.X.other (by simp; omega) _, h.Y.other (by simp; omega) _, h.R.other (by simp; omega) _, h.O.other (by simp; omega) _, h.A.other d _, h.B.other e _, hl ▸ h.C.set j v, h.W.setCell (by simp; omega) _⟩
set_option maxRecDepth 100000 in
set_option maxHeartbeats 8000000 in
theorem mulC (x y : L8) (hx : x.ok) (hy : y.ok) (p q : Int) (hp : size8 x = one8 p) (hq : size8 y = one8 q) (hpw : isW p) (hqw : isW q)
    (hs : sgn8 (two8 (loR p q) (hiR p q)) (topB x.h != topB y.h) = z8 ∨ topB (sgn8 (two8 (loR p q) (hiR p q)) (topB x.h != topB y.h)).h = (topB x.h != topB y.h)) (w : World) :
    RetB Tryz.prog 86 #[.agg #[.int .u64 x.a, .int .u64 x.b, .int .u64 x.c, .int .u64 x.d, .int .u64 x.e, .int .u64 x.f, .int .u64 x.g, .int .u64 x.h], .agg #[.int .u64 y.a, .int .u64 y.b, .int .u64 y.c, .int .u64 y.d, .int .u64 y.e, .int .u64 y.f, .int .u64 y.g, .int .u64 y.h]] w (.tuple #[.agg #[.int .u64 (sgn8 (two8 (loR p q) (hiR p q)) (topB x.h != topB y.h)).a, .int .u64 (sgn8 (two8 (loR p q) (hiR p q)) (topB x.h != topB y.h)).b, .int .u64 (sgn8 (two8 (loR p q) (hiR p q)) (topB x.h != topB y.h)).c, .int .u64 (sgn8 (two8 (loR p q) (hiR p q)) (topB x.h != topB y.h)).d, .int .u64 (sgn8 (two8 (loR p q) (hiR p q)) (topB x.h != topB y.h)).e, .int .u64 (sgn8 (two8 (loR p q) (hiR p q)) (topB x.h != topB y.h)).f, .int .u64 (sgn8 (two8 (loR p q) (hiR p q)) (topB x.h != topB y.h)).g, .int .u64 (sgn8 (two8 (loR p q) (hiR p q)) (topB x.h != topB y.h)).h], .bool true]) := by
  have hmf : ∀ (fn : Fn) (first cap : Array Value) (w : World), (Instr.makeFunc fn first cap).run Tryz.prog w = .ok (.func fn first cap) w := fun _ _ _ _ => rfl
  have HP := Lib.hid hp; have HQ := Lib.hid hq; have HS := Lib.hid hs
  clear hp hq hs
  unfold RetB
  go_enter_defers Tryz.func86, Tryz.ntmps86
  go_wp2
  refine wp_region_ph [(8, .free [6, 7])] (by kernel_rfl) (by kernel_rfl) ?_
  refine Ph.maded [(6, [.int .u64 0, .int .u64 0, .int .u64 0, .int .u64 0, .int .u64 0, .int .u64 0, .int .u64 0, .int .u64 0], 146), (7, [.int .u64 0, .int .u64 0, .int .u64 0, .int .u64 0, .int .u64 0, .int .u64 0, .int .u64 0, .int .u64 0], 146)] (by rfl) ?_
  simp only [List.drop_succ_cons, List.drop_zero, List.take_succ_cons, List.take_zero, Nat.reduceSub, Nat.sub_zero]
  iterate 2 (refine SeqO.val (v := ?_) (by rfl) (by rfl) (fun w1 hS => ?_) ?_; rotate_left; (· obtain ⟨hc, hcf⟩ := bcell hS; go_simp; try with_reducible rfl); simp only [Act.put, List.setIfInBounds_toArray, List.set_cons_zero, List.set_cons_succ])
  refine SeqO.callv (by rfl) (by rfl) (by rfl) cf105 (by simp [Act.eval]) (fun w1 hS => (size8C x hx w1).eq (by rw [HP.out])) ?_
  simp only [Act.put, List.setIfInBounds_toArray, List.set_cons_zero, List.set_cons_succ]
  iterate 2 (refine SeqO.val (v := ?_) (by rfl) (by rfl) (fun w1 hS => ?_) ?_; rotate_left; (· obtain ⟨hc, hcf⟩ := bcell hS; go_simp; try with_reducible rfl); simp only [Act.put, List.setIfInBounds_toArray, List.set_cons_zero, List.set_cons_succ])
  refine SeqO.callv (by rfl) (by rfl) (by rfl) cf105 (by simp [Act.eval]) (fun w1 hS => (size8C y hy w1).eq (by rw [HQ.out])) ?_
  simp only [Act.put, List.setIfInBounds_toArray, List.set_cons_zero, List.set_cons_succ]
  refine SeqO.alloc (cs := [.int .u64 0, .int .u64 0, .int .u64 0, .int .u64 0, .int .u64 0, .int .u64 0, .int .u64 0, .int .u64 0]) (Ty := 146) (by rfl) ⟨146, by simp⟩ (by rfl) (by simp) (by rfl) (fun w => by go_simp) ?_
  refine SeqO.alloc (cs := [.int .u64 0, .int .u64 0, .int .u64 0, .int .u64 0, .int .u64 0, .int .u64 0, .int .u64 0, .int .u64 0]) (Ty := 146) (by rfl) ⟨146, by simp⟩ (by rfl) (by simp) (by rfl) (fun w => by go_simp) ?_
  refine SeqO.nil fun L u w1 hL hA => ?_
  obtain ⟨g6, hg6, hge6, hb6⟩ := hA.made (6, [.int .u64 0, .int .u64 0, .int .u64 0, .int .u64 0, .int .u64 0, .int .u64 0, .int .u64 0, .int .u64 0], 146) (by simp) (hL 6 (by omega))
  obtain ⟨g7, hg7, hge7, hb7⟩ := hA.made (7, [.int .u64 0, .int .u64 0, .int .u64 0, .int .u64 0, .int .u64 0, .int .u64 0, .int .u64 0, .int .u64 0], 146) (by simp) (hL 7 (by omega))
  have hne : g6 ≠ g7 := by
    have := hA.ne (6, [.int .u64 0, .int .u64 0, .int .u64 0, .int .u64 0, .int .u64 0, .int .u64 0, .int .u64 0, .int .u64 0], 146) (by simp) (7, [.int .u64 0, .int .u64 0, .int .u64 0, .int .u64 0, .int .u64 0, .int .u64 0, .int .u64 0, .int .u64 0], 146) (by simp) (hL 6 (by omega)) (hL 7 (by omega)) (by simp)
    intro e
    rw [hg6, hg7, e] at this
    exact this rfl
  have hS := hA.below
  clear hA hL
  simp only [List.nil_append, List.cons_append, List.foldl_cons, List.foldl_nil, hg6, hg7]
  refine Ph.last ?_
  simp only [List.drop_succ_cons, List.drop_zero, List.take_succ_cons, List.take_zero, Nat.reduceSub, Nat.sub_zero]
  clear hg6 hg7
  have k6 : w.heap.size + 3 < g6 := by simp at hge6; omega
  have k7 : w.heap.size + 3 < g7 := by simp at hge7; omega
  clear hge6 hge7
  have hX : Box w1 w.heap.size [.int .u64 x.a, .int .u64 x.b, .int .u64 x.c, .int .u64 x.d, .int .u64 x.e, .int .u64 x.f, .int .u64 x.g, .int .u64 x.h] 127 := ((((Box.new rfl).alloc _).alloc _).alloc _).step hS
  have hY : Box w1 (w.heap.size + 1) [.int .u64 y.a, .int .u64 y.b, .int .u64 y.c, .int .u64 y.d, .int .u64 y.e, .int .u64 y.f, .int .u64 y.g, .int .u64 y.h] 127 := (((Box.new (by simp)).alloc _).alloc _).step hS
  have hR : Box w1 (w.heap.size + 1 + 1) [.int .u64 0, .int .u64 0, .int .u64 0, .int .u64 0, .int .u64 0, .int .u64 0, .int .u64 0, .int .u64 0] 127 := ((Box.new (by simp)).alloc _).step hS
  have hO : Box w1 (w.heap.size + 1 + 1 + 1) [.bool false] 4 := (Box.new (by simp)).step hS
  have hA : Box w1 g6 [.int .u64 0, .int .u64 0, .int .u64 0, .int .u64 0, .int .u64 0, .int .u64 0, .int .u64 0, .int .u64 0] 146 := hb6
  have hB : Box w1 g7 [.int .u64 0, .int .u64 0, .int .u64 0, .int .u64 0, .int .u64 0, .int .u64 0, .int .u64 0, .int .u64 0] 146 := hb7
  have hW : Below w.heap.size w w1 := (((((Below.refl _ _).alloc (Nat.le_refl _) _).alloc (by simp) _).alloc (by simp; omega) _).alloc (by simp; omega) _).trans (hS.mono (by simp; omega))
  clear hb6 hb7 hS
  have a6 := hA.lt; have a7 := hB.lt
  have HD : MulD w.heap.size g6 g7 w1.heap.size := ⟨k6, k7, by omega, by omega, by omega⟩
  have HI : MulI w w.heap.size g6 g7 w1.heap.size x y (one8 p) (one8 q) z8 (((((((((((((((((w1.setCell ⟨g6, 0, none⟩ (.int .u64 (one8 p).a)).setCell ⟨g6, 1, none⟩ (.int .u64 (one8 p).b)).setCell ⟨g6, 2, none⟩ (.int .u64 (one8 p).c)).setCell ⟨g6, 3, none⟩ (.int .u64 (one8 p).d)).setCell ⟨g6, 4, none⟩ (.int .u64 (one8 p).e)).setCell ⟨g6, 5, none⟩ (.int .u64 (one8 p).f)).setCell ⟨g6, 6, none⟩ (.int .u64 (one8 p).g)).setCell ⟨g6, 7, none⟩ (.int .u64 (one8 p).h)).setCell ⟨g7, 0, none⟩ (.int .u64 (one8 q).a)).setCell ⟨g7, 1, none⟩ (.int .u64 (one8 q).b)).setCell ⟨g7, 2, none⟩ (.int .u64 (one8 q).c)).setCell ⟨g7, 3, none⟩ (.int .u64 (one8 q).d)).setCell ⟨g7, 4, none⟩ (.int .u64 (one8 q).e)).setCell ⟨g7, 5, none⟩ (.int .u64 (one8 q).f)).setCell ⟨g7, 6, none⟩ (.int .u64 (one8 q).g)).setCell ⟨g7, 7, none⟩ (.int .u64 (one8 q).h)).alloc (.cells #[.int .u64 0, .int .u64 0, .int .u64 0, .int .u64 0, .int .u64 0, .int .u64 0, .int .u64 0, .int .u64 0] 146)) :=
    ⟨(((((((((((((((((hX).other (by simp; omega) _).other (by simp; omega) _).other (by simp; omega) _).other (by simp; omega) _).other (by simp; omega) _).other (by simp; omega) _).other (by simp; omega) _).other (by simp; omega) _).other (by simp; omega) _).other (by simp; omega) _).other (by simp; omega) _).other (by simp; omega) _).other (by simp; omega) _).other (by simp; omega) _).other (by simp; omega) _).other (by simp; omega) _).alloc _, (((((((((((((((((hY).other (by simp; omega) _).other (by simp; omega) _).other (by simp; omega) _).other (by simp; omega) _).other (by simp; omega) _).other (by simp; omega) _).other (by simp; omega) _).other (by simp; omega) _).other (by simp; omega) _).other (by simp; omega) _).other (by simp; omega) _).other (by simp; omega) _).other (by simp; omega) _).other (by simp; omega) _).other (by simp; omega) _).other (by simp; omega) _).alloc _, (((((((((((((((((hR).other (by simp; omega) _).other (by simp; omega) _).other (by simp; omega) _).other (by simp; omega) _).other (by simp; omega) _).other (by simp; omega) _).other (by simp; omega) _).other (by simp; omega) _).other (by simp; omega) _).other (by simp; omega) _).other (by simp; omega) _).other (by simp; omega) _).other (by simp; omega) _).other (by simp; omega) _).other (by simp; omega) _).other (by simp; omega) _).alloc _, (((((((((((((((((hO).other (by simp; omega) _).other (by simp; omega) _).other (by simp; omega) _).other (by simp; omega) _).other (by simp; omega) _).other (by simp; omega) _).other (by simp; omega) _).other (by simp; omega) _).other (by simp; omega) _).other (by simp; omega) _).other (by simp; omega) _).other (by simp; omega) _).other (by simp; omega) _).other (by simp; omega) _).other (by simp; omega) _).other (by simp; omega) _).alloc _, (((((((((((((((((hA).set 0 _).set 1 _).set 2 _).set 3 _).set 4 _).set 5 _).set 6 _).set 7 _).other (fun e => hne e.symm) _).other (fun e => hne e.symm) _).other (fun e => hne e.symm) _).other (fun e => hne e.symm) _).other (fun e => hne e.symm) _).other (fun e => hne e.symm) _).other (fun e => hne e.symm) _).other (fun e => hne e.symm) _).alloc _, (((((((((((((((((hB).other hne _).other hne _).other hne _).other hne _).other hne _).other hne _).other hne _).other hne _).set 0 _).set 1 _).set 2 _).set 3 _).set 4 _).set 5 _).set 6 _).set 7 _).alloc _, Box.new (by simp), (((((((((((((((((hW).setCell (by first | (simp; omega) | omega) _).setCell (by first | (simp; omega) | omega) _).setCell (by first | (simp; omega) | omega) _).setCell (by first | (simp; omega) | omega) _).setCell (by first | (simp; omega) | omega) _).setCell (by first | (simp; omega) | omega) _).setCell (by first | (simp; omega) | omega) _).setCell (by first | (simp; omega) | omega) _).setCell (by first | (simp; omega) | omega) _).setCell (by first | (simp; omega) | omega) _).setCell (by first | (simp; omega) | omega) _).setCell (by first | (simp; omega) | omega) _).setCell (by first | (simp; omega) | omega) _).setCell (by first | (simp; omega) | omega) _).setCell (by first | (simp; omega) | omega) _).setCell (by first | (simp; omega) | omega) _).alloc (by simp; omega) _⟩
  have a0 := (hA).cell 0; have a1 := (hA).cell 1; have a2 := (hA).cell 2; have a3 := (hA).cell 3; have a4 := (hA).cell 4; have a5 := (hA).cell 5; have a6 := (hA).cell 6; have a7 := (hA).cell 7; have af := (hA).free
  simp only [List.getElem?_cons_zero, List.getElem?_cons_succ] at a0 a1 a2 a3 a4 a5 a6 a7
  have b0 := (hB).cell 0; have b1 := (hB).cell 1; have b2 := (hB).cell 2; have b3 := (hB).cell 3; have b4 := (hB).cell 4; have b5 := (hB).cell 5; have b6 := (hB).cell 6; have b7 := (hB).cell 7; have bf := (hB).free
  simp only [List.getElem?_cons_zero, List.getElem?_cons_succ] at b0 b1 b2 b3 b4 b5 b6 b7
  clear hX hY hR hO hA hB
  go_wp2
  clear a0 a1 a2 a3 a4 a5 a6 a7 af
  clear b0 b1 b2 b3 b4 b5 b6 b7 bf
  revert HI HD
  generalize ((((((((((((((((w1.setCell ⟨g6, 0, none⟩ (.int .u64 (one8 p).a)).setCell ⟨g6, 1, none⟩ (.int .u64 (one8 p).b)).setCell ⟨g6, 2, none⟩ (.int .u64 (one8 p).c)).setCell ⟨g6, 3, none⟩ (.int .u64 (one8 p).d)).setCell ⟨g6, 4, none⟩ (.int .u64 (one8 p).e)).setCell ⟨g6, 5, none⟩ (.int .u64 (one8 p).f)).setCell ⟨g6, 6, none⟩ (.int .u64 (one8 p).g)).setCell ⟨g6, 7, none⟩ (.int .u64 (one8 p).h)).setCell ⟨g7, 0, none⟩ (.int .u64 (one8 q).a)).setCell ⟨g7, 1, none⟩ (.int .u64 (one8 q).b)).setCell ⟨g7, 2, none⟩ (.int .u64 (one8 q).c)).setCell ⟨g7, 3, none⟩ (.int .u64 (one8 q).d)).setCell ⟨g7, 4, none⟩ (.int .u64 (one8 q).e)).setCell ⟨g7, 5, none⟩ (.int .u64 (one8 q).f)).setCell ⟨g7, 6, none⟩ (.int .u64 (one8 q).g)).setCell ⟨g7, 7, none⟩ (.int .u64 (one8 q).h)).alloc (.cells #[.int .u64 0, .int .u64 0, .int .u64 0, .int .u64 0, .int .u64 0, .int .u64 0, .int .u64 0, .int .u64 0] 146) = w2
  generalize w1.heap.size = g8
  intro HD HI
  clear hne k6 k7 a6 a7 hW
  by_cases hp0 : p = 0
  · subst hp0
    have e2 : two8 (loR 0 q) (hiR 0 q) = z8 := by
      obtain ⟨h1, h2⟩ := mul64_eq isW0 hqw
      unfold two8; rw [h1, h2, Int.zero_mul]; rfl
    have E2 := Lib.hid e2
    rw [e2] at HS
    clear e2
    have hA := HI.A
    have d0 := (hA).cell 0; have d1 := (hA).cell 1; have d2 := (hA).cell 2; have d3 := (hA).cell 3; have d4 := (hA).cell 4; have d5 := (hA).cell 5; have d6 := (hA).cell 6; have d7 := (hA).cell 7; have df := (hA).free
    simp only [List.getElem?_cons_zero, List.getElem?_cons_succ] at d0 d1 d2 d3 d4 d5 d6 d7
    simp only [one8] at d0 d1 d2 d3 d4 d5 d6 d7
    clear hA
    refine wp_loop_rounds 9 ?_
    rw [rounds_succ]; go_wp2
    rw [rounds_succ]; go_wp2
    rw [rounds_succ]; go_wp2
    rw [rounds_succ]; go_wp2
    rw [rounds_succ]; go_wp2
    rw [rounds_succ]; go_wp2
    rw [rounds_succ]; go_wp2
    rw [rounds_succ]; go_wp2
    clear d0 d1 d2 d3 d4 d5 d6 d7 df
    have hC := HI.C; have hX := HI.X; have hY := HI.Y
    have c0 := (hC).cell 0; have c1 := (hC).cell 1; have c2 := (hC).cell 2; have c3 := (hC).cell 3; have c4 := (hC).cell 4; have c5 := (hC).cell 5; have c6 := (hC).cell 6; have c7 := (hC).cell 7; have cf := (hC).free
    simp only [List.getElem?_cons_zero, List.getElem?_cons_succ] at c0 c1 c2 c3 c4 c5 c6 c7
    have a0 := (hX).cell 0; have a1 := (hX).cell 1; have a2 := (hX).cell 2; have a3 := (hX).cell 3; have a4 := (hX).cell 4; have a5 := (hX).cell 5; have a6 := (hX).cell 6; have a7 := (hX).cell 7; have af := (hX).free
    simp only [List.getElem?_cons_zero, List.getElem?_cons_succ] at a0 a1 a2 a3 a4 a5 a6 a7
    have b0 := (hY).cell 0; have b1 := (hY).cell 1; have b2 := (hY).cell 2; have b3 := (hY).cell 3; have b4 := (hY).cell 4; have b5 := (hY).cell 5; have b6 := (hY).cell 6; have b7 := (hY).cell 7; have bf := (hY).free
    simp only [List.getElem?_cons_zero, List.getElem?_cons_succ] at b0 b1 b2 b3 b4 b5 b6 b7
    clear hC hX hY
    have hl : (z8).ok := z8_ok
    have j0 := HI.X.lt; have j1 := HI.Y.lt; have j2 := HI.C.lt
    rw [rounds_succ]; go_wp2
    refine wp_region_ph [(9, .free [])] (by kernel_rfl) (by kernel_rfl) ?_
    refine Ph.belowd ?_
    simp only [List.drop_succ_cons, List.drop_zero, List.take_succ_cons, List.take_zero, Nat.reduceSub, Nat.sub_zero]
    iterate 3 (refine SeqO.val (v := ?_) (by rfl) (by rfl) (fun w1 hS => ?_) ?_; rotate_left; (· obtain ⟨hc, hcf⟩ := bcell hS; go_simp; try with_reducible rfl); simp only [Act.put, List.setIfInBounds_toArray, List.set_cons_zero, List.set_cons_succ])
    refine SeqO.callv (by rfl) (by rfl) (by rfl) cf109 (by simp [Act.eval]) (fun w1 hS => negC x w1) ?_
    simp only [Act.put, List.setIfInBounds_toArray, List.set_cons_zero, List.set_cons_succ]
    iterate 2 (refine SeqO.val (v := ?_) (by rfl) (by rfl) (fun w1 hS => ?_) ?_; rotate_left; (· obtain ⟨hc, hcf⟩ := bcell hS; go_simp; try with_reducible rfl); simp only [Act.put, List.setIfInBounds_toArray, List.set_cons_zero, List.set_cons_succ])
    refine SeqO.callv (by rfl) (by rfl) (by rfl) cf109 (by simp [Act.eval]) (fun w1 hS => negC y w1) ?_
    simp only [Act.put, List.setIfInBounds_toArray, List.set_cons_zero, List.set_cons_succ]
    iterate 1 (refine SeqO.val (v := ?_) (by rfl) (by rfl) (fun w1 hS => ?_) ?_; rotate_left; (· obtain ⟨hc, hcf⟩ := bcell hS; go_simp; try with_reducible rfl); simp only [Act.put, List.setIfInBounds_toArray, List.set_cons_zero, List.set_cons_succ])
    refine SeqO.callv (by rfl) (by rfl) (by rfl) cf108 (by simp [Act.eval]; cases topB x.h <;> cases topB y.h <;> rfl) (fun w1 hS => signedC (z8) hl (topB x.h != topB y.h) HS.out w1) ?_
    simp only [Act.put, List.setIfInBounds_toArray, List.set_cons_zero, List.set_cons_succ]
    refine SeqO.nil0 fun w3 hS3 => ?_
    refine Ph.last ?_
    simp only [List.drop_succ_cons, List.drop_zero, List.take_succ_cons, List.take_zero, Nat.reduceSub, Nat.sub_zero]
    clear c0 c1 c2 c3 c4 c5 c6 c7 cf
    clear a0 a1 a2 a3 a4 a5 a6 a7 af
    clear b0 b1 b2 b3 b4 b5 b6 b7 bf
    have HI3 := HI.step hS3
    have hR := HI3.R; have hO := HI3.O
    have r0 := (hR).cell 0; have r1 := (hR).cell 1; have r2 := (hR).cell 2; have r3 := (hR).cell 3; have r4 := (hR).cell 4; have r5 := (hR).cell 5; have r6 := (hR).cell 6; have r7 := (hR).cell 7; have rf := (hR).free
    simp only [List.getElem?_cons_zero, List.getElem?_cons_succ] at r0 r1 r2 r3 r4 r5 r6 r7
    have o0 := hO.cell 0; have of := hO.free 0
    simp only [List.getElem?_cons_zero] at o0
    have hWW := HI3.W
    clear hR hO HI HI3 hS3
    go_wp2
    refine leaves_cons (f := 104) (args := #[.pointer (some ⟨w.heap.size + 1 + 1, 0, none⟩), .pointer (some ⟨w.heap.size + 1 + 1 + 1, 0, none⟩)]) (by simp) (by simp [go_sem]) ?_
    refine (mulcC _ _ _).mono ?_
    rintro e u' w'' ⟨rfl, rfl, rfl⟩
    simp [Leaves, settle, results, Tryz.results86, go_sem, *]
    refine ⟨by rw [E2.out]; exact ⟨rfl, rfl, rfl, rfl, rfl, rfl, rfl, rfl⟩, (((((((((hWW).setCell (by first | omega | (simp; done) | (simp; omega)) _).setCell (by first | omega | (simp; done) | (simp; omega)) _).setCell (by first | omega | (simp; done) | (simp; omega)) _).setCell (by first | omega | (simp; done) | (simp; omega)) _).setCell (by first | omega | (simp; done) | (simp; omega)) _).setCell (by first | omega | (simp; done) | (simp; omega)) _).setCell (by first | omega | (simp; done) | (simp; omega)) _).setCell (by first | omega | (simp; done) | (simp; omega)) _).setCell (by first | omega | (simp; done) | (simp; omega)) _⟩
  · have b0 : (p == 0) = false := by simpa using hp0
    clear hp0
    have hHL := hilo_is hpw hqw
    have hH := hHL.1; have hLo := hHL.2
    have HM := mul64B p q
    have HM0 := mul64Z p hpw
    generalize hEH : hiR p q = H at *
    generalize hEL : loR p q = Lo at *
    have EH := Lib.hid hEH; have EL := Lib.hid hEL; clear hEH hEL
    have z1 := add64_l hLo; have z2 := add64_r hLo; have z3 := add64_l hH; have z4 := add64_r hH; have z5 := add64_l isW0
    have z6 : IntKind.u64.wrap H = H := wr_id hH.1 hH.2
    have hA := HI.A
    have d0 := hA.cell 0
    simp only [List.getElem?_cons_zero, one8] at d0
    clear hA
    refine wp_loop_rounds 9 ?_
    rw [rounds_succ]; go_wp2
    clear d0
    refine wp_loop_rounds 9 ?_
    rw [rounds_succ]
    have hA := HI.A; have hB := HI.B
    have e0 := hA.cell 0; have f0 := hB.cell 0
    simp only [List.getElem?_cons_zero, List.getElem?_cons_succ, one8] at e0 f0
    have j0 := HI.A.lt; have j1 := HI.B.lt; have j2 := HI.C.lt
    clear hA hB
    go_wp2
    refine wp_region_ph [(12, .free [])] (by kernel_rfl) (by kernel_rfl) ?_
    refine Ph.belowd ?_
    simp only [List.drop_succ_cons, List.drop_zero, List.take_succ_cons, List.take_zero, Nat.reduceSub, Nat.sub_zero]
    iterate 6 (refine SeqO.val (v := ?_) (by rfl) (by rfl) (fun w1 hS => ?_) ?_; rotate_left; (· obtain ⟨hc, hcf⟩ := bcell hS; go_simp; try with_reducible rfl); simp only [Act.put, List.setIfInBounds_toArray, List.set_cons_zero, List.set_cons_succ])
    refine SeqO.callv (by rfl) (by rfl) (by rfl) cf106 (by simp [Act.eval]) (fun w1 hS => HM w1) ?_
    simp only [Act.put, List.setIfInBounds_toArray, List.set_cons_zero, List.set_cons_succ]
    iterate 5 (refine SeqO.val (v := ?_) (by rfl) (by rfl) (fun w1 hS => ?_) ?_; rotate_left; (· obtain ⟨hc, hcf⟩ := bcell hS; go_simp; try with_reducible rfl); simp only [Act.put, List.setIfInBounds_toArray, List.set_cons_zero, List.set_cons_succ])
    refine SeqO.nil0 fun w3 hS3 => ?_
    refine Ph.last ?_
    simp only [List.drop_succ_cons, List.drop_zero, List.take_succ_cons, List.take_zero, Nat.reduceSub, Nat.sub_zero]
    clear e0 f0 j0 j1 j2
    have HI3 := HI.step hS3
    have hC := HI3.C
    have c0 := hC.cell 0; have cf := hC.free 0
    simp only [List.getElem?_cons_zero, List.getElem?_cons_succ, z8, one8, two8] at c0
    clear hC HI hS3
    have HI : MulI w w.heap.size g6 g7 g8 x y (one8 p) (one8 q) (one8 Lo) (w3.setCell ⟨g8, 0, none⟩ (.int .u64 Lo)) := HI3.put HD (Nat.le_refl _) rfl
    clear HI3
    go_wp2
    clear c0 cf
    revert HI
    generalize w3.setCell ⟨g8, 0, none⟩ (.int .u64 Lo) = w4
    intro HI
    rw [rounds_succ]
    have hA := HI.A; have hB := HI.B
    have e0 := hA.cell 0; have f0 := hB.cell 1
    simp only [List.getElem?_cons_zero, List.getElem?_cons_succ, one8] at e0 f0
    have j0 := HI.A.lt; have j1 := HI.B.lt; have j2 := HI.C.lt
    clear hA hB
    go_wp2
    refine wp_region_ph [(12, .free [])] (by kernel_rfl) (by kernel_rfl) ?_
    refine Ph.belowd ?_
    simp only [List.drop_succ_cons, List.drop_zero, List.take_succ_cons, List.take_zero, Nat.reduceSub, Nat.sub_zero]
    iterate 6 (refine SeqO.val (v := ?_) (by rfl) (by rfl) (fun w1 hS => ?_) ?_; rotate_left; (· obtain ⟨hc, hcf⟩ := bcell hS; go_simp; try with_reducible rfl); simp only [Act.put, List.setIfInBounds_toArray, List.set_cons_zero, List.set_cons_succ])
    refine SeqO.callv (by rfl) (by rfl) (by rfl) cf106 (by simp [Act.eval]) (fun w1 hS => HM0 w1) ?_
    simp only [Act.put, List.setIfInBounds_toArray, List.set_cons_zero, List.set_cons_succ]
    iterate 5 (refine SeqO.val (v := ?_) (by rfl) (by rfl) (fun w1 hS => ?_) ?_; rotate_left; (· obtain ⟨hc, hcf⟩ := bcell hS; go_simp; try with_reducible rfl); simp only [Act.put, List.setIfInBounds_toArray, List.set_cons_zero, List.set_cons_succ])
    refine SeqO.nil0 fun w3 hS3 => ?_
    refine Ph.last ?_
    simp only [List.drop_succ_cons, List.drop_zero, List.take_succ_cons, List.take_zero, Nat.reduceSub, Nat.sub_zero]
    clear e0 f0 j0 j1 j2
    have HI3 := HI.step hS3
    have hC := HI3.C
    have c0 := hC.cell 1; have cf := hC.free 1
    simp only [List.getElem?_cons_zero, List.getElem?_cons_succ, z8, one8, two8] at c0
    clear hC HI hS3
    have HI : MulI w w.heap.size g6 g7 g8 x y (one8 p) (one8 q) (two8 Lo H) (w3.setCell ⟨g8, 1, none⟩ (.int .u64 H)) := HI3.put HD (Nat.le_refl _) rfl
    clear HI3
    go_wp2
    clear c0 cf
    revert HI
    generalize w3.setCell ⟨g8, 1, none⟩ (.int .u64 H) = w4
    intro HI
    rw [rounds_succ]
    have hA := HI.A; have hB := HI.B
    have e0 := hA.cell 0; have f0 := hB.cell 2
    simp only [List.getElem?_cons_zero, List.getElem?_cons_succ, one8] at e0 f0
    have j0 := HI.A.lt; have j1 := HI.B.lt; have j2 := HI.C.lt
    clear hA hB
    go_wp2
    refine wp_region_ph [(12, .free [])] (by kernel_rfl) (by kernel_rfl) ?_
    refine Ph.belowd ?_
    simp only [List.drop_succ_cons, List.drop_zero, List.take_succ_cons, List.take_zero, Nat.reduceSub, Nat.sub_zero]
    iterate 6 (refine SeqO.val (v := ?_) (by rfl) (by rfl) (fun w1 hS => ?_) ?_; rotate_left; (· obtain ⟨hc, hcf⟩ := bcell hS; go_simp; try with_reducible rfl); simp only [Act.put, List.setIfInBounds_toArray, List.set_cons_zero, List.set_cons_succ])
    refine SeqO.callv (by rfl) (by rfl) (by rfl) cf106 (by simp [Act.eval]) (fun w1 hS => HM0 w1) ?_
    simp only [Act.put, List.setIfInBounds_toArray, List.set_cons_zero, List.set_cons_succ]
    iterate 5 (refine SeqO.val (v := ?_) (by rfl) (by rfl) (fun w1 hS => ?_) ?_; rotate_left; (· obtain ⟨hc, hcf⟩ := bcell hS; go_simp; try with_reducible rfl); simp only [Act.put, List.setIfInBounds_toArray, List.set_cons_zero, List.set_cons_succ])
    refine SeqO.nil0 fun w3 hS3 => ?_
    refine Ph.last ?_
    simp only [List.drop_succ_cons, List.drop_zero, List.take_succ_cons, List.take_zero, Nat.reduceSub, Nat.sub_zero]
    clear e0 f0 j0 j1 j2
    have HI3 := HI.step hS3
    have hC := HI3.C
    have c0 := hC.cell 2; have cf := hC.free 2
    simp only [List.getElem?_cons_zero, List.getElem?_cons_succ, z8, one8, two8] at c0
    clear hC HI hS3
    have HI : MulI w w.heap.size g6 g7 g8 x y (one8 p) (one8 q) (two8 Lo H) (w3.setCell ⟨g8, 2, none⟩ (.int .u64 0)) := HI3.put HD (Nat.le_refl _) rfl
    clear HI3
    go_wp2
    clear c0 cf
    revert HI
    generalize w3.setCell ⟨g8, 2, none⟩ (.int .u64 0) = w4
    intro HI
    rw [rounds_succ]
    have hA := HI.A; have hB := HI.B
    have e0 := hA.cell 0; have f0 := hB.cell 3
    simp only [List.getElem?_cons_zero, List.getElem?_cons_succ, one8] at e0 f0
    have j0 := HI.A.lt; have j1 := HI.B.lt; have j2 := HI.C.lt
    clear hA hB
    go_wp2
    refine wp_region_ph [(12, .free [])] (by kernel_rfl) (by kernel_rfl) ?_
    refine Ph.belowd ?_
    simp only [List.drop_succ_cons, List.drop_zero, List.take_succ_cons, List.take_zero, Nat.reduceSub, Nat.sub_zero]
    iterate 6 (refine SeqO.val (v := ?_) (by rfl) (by rfl) (fun w1 hS => ?_) ?_; rotate_left; (· obtain ⟨hc, hcf⟩ := bcell hS; go_simp; try with_reducible rfl); simp only [Act.put, List.setIfInBounds_toArray, List.set_cons_zero, List.set_cons_succ])
    refine SeqO.callv (by rfl) (by rfl) (by rfl) cf106 (by simp [Act.eval]) (fun w1 hS => HM0 w1) ?_
    simp only [Act.put, List.setIfInBounds_toArray, List.set_cons_zero, List.set_cons_succ]
    iterate 5 (refine SeqO.val (v := ?_) (by rfl) (by rfl) (fun w1 hS => ?_) ?_; rotate_left; (· obtain ⟨hc, hcf⟩ := bcell hS; go_simp; try with_reducible rfl); simp only [Act.put, List.setIfInBounds_toArray, List.set_cons_zero, List.set_cons_succ])
    refine SeqO.nil0 fun w3 hS3 => ?_
    refine Ph.last ?_
    simp only [List.drop_succ_cons, List.drop_zero, List.take_succ_cons, List.take_zero, Nat.reduceSub, Nat.sub_zero]
    clear e0 f0 j0 j1 j2
    have HI3 := HI.step hS3
    have hC := HI3.C
    have c0 := hC.cell 3; have cf := hC.free 3
    simp only [List.getElem?_cons_zero, List.getElem?_cons_succ, z8, one8, two8] at c0
    clear hC HI hS3
    have HI : MulI w w.heap.size g6 g7 g8 x y (one8 p) (one8 q) (two8 Lo H) (w3.setCell ⟨g8, 3, none⟩ (.int .u64 0)) := HI3.put HD (Nat.le_refl _) rfl
    clear HI3
    go_wp2
    clear c0 cf
    revert HI
    generalize w3.setCell ⟨g8, 3, none⟩ (.int .u64 0) = w4
    intro HI
    rw [rounds_succ]
    have hA := HI.A; have hB := HI.B
    have e0 := hA.cell 0; have f0 := hB.cell 4
    simp only [List.getElem?_cons_zero, List.getElem?_cons_succ, one8] at e0 f0
    have j0 := HI.A.lt; have j1 := HI.B.lt; have j2 := HI.C.lt
    clear hA hB
    go_wp2
    refine wp_region_ph [(12, .free [])] (by kernel_rfl) (by kernel_rfl) ?_
    refine Ph.belowd ?_
    simp only [List.drop_succ_cons, List.drop_zero, List.take_succ_cons, List.take_zero, Nat.reduceSub, Nat.sub_zero]
    iterate 6 (refine SeqO.val (v := ?_) (by rfl) (by rfl) (fun w1 hS => ?_) ?_; rotate_left; (· obtain ⟨hc, hcf⟩ := bcell hS; go_simp; try with_reducible rfl); simp only [Act.put, List.setIfInBounds_toArray, List.set_cons_zero, List.set_cons_succ])
    refine SeqO.callv (by rfl) (by rfl) (by rfl) cf106 (by simp [Act.eval]) (fun w1 hS => HM0 w1) ?_
    simp only [Act.put, List.setIfInBounds_toArray, List.set_cons_zero, List.set_cons_succ]
    iterate 5 (refine SeqO.val (v := ?_) (by rfl) (by rfl) (fun w1 hS => ?_) ?_; rotate_left; (· obtain ⟨hc, hcf⟩ := bcell hS; go_simp; try with_reducible rfl); simp only [Act.put, List.setIfInBounds_toArray, List.set_cons_zero, List.set_cons_succ])
    refine SeqO.nil0 fun w3 hS3 => ?_
    refine Ph.last ?_
    simp only [List.drop_succ_cons, List.drop_zero, List.take_succ_cons, List.take_zero, Nat.reduceSub, Nat.sub_zero]
    clear e0 f0 j0 j1 j2
    have HI3 := HI.step hS3
    have hC := HI3.C
    have c0 := hC.cell 4; have cf := hC.free 4
    simp only [List.getElem?_cons_zero, List.getElem?_cons_succ, z8, one8, two8] at c0
    clear hC HI hS3
    have HI : MulI w w.heap.size g6 g7 g8 x y (one8 p) (one8 q) (two8 Lo H) (w3.setCell ⟨g8, 4, none⟩ (.int .u64 0)) := HI3.put HD (Nat.le_refl _) rfl
    clear HI3
    go_wp2
    clear c0 cf
    revert HI
    generalize w3.setCell ⟨g8, 4, none⟩ (.int .u64 0) = w4
    intro HI
    rw [rounds_succ]
    have hA := HI.A; have hB := HI.B
    have e0 := hA.cell 0; have f0 := hB.cell 5
    simp only [List.getElem?_cons_zero, List.getElem?_cons_succ, one8] at e0 f0
    have j0 := HI.A.lt; have j1 := HI.B.lt; have j2 := HI.C.lt
    clear hA hB
    go_wp2
    refine wp_region_ph [(12, .free [])] (by kernel_rfl) (by kernel_rfl) ?_
    refine Ph.belowd ?_
    simp only [List.drop_succ_cons, List.drop_zero, List.take_succ_cons, List.take_zero, Nat.reduceSub, Nat.sub_zero]
    iterate 6 (refine SeqO.val (v := ?_) (by rfl) (by rfl) (fun w1 hS => ?_) ?_; rotate_left; (· obtain ⟨hc, hcf⟩ := bcell hS; go_simp; try with_reducible rfl); simp only [Act.put, List.setIfInBounds_toArray, List.set_cons_zero, List.set_cons_succ])
    refine SeqO.callv (by rfl) (by rfl) (by rfl) cf106 (by simp [Act.eval]) (fun w1 hS => HM0 w1) ?_
    simp only [Act.put, List.setIfInBounds_toArray, List.set_cons_zero, List.set_cons_succ]
    iterate 5 (refine SeqO.val (v := ?_) (by rfl) (by rfl) (fun w1 hS => ?_) ?_; rotate_left; (· obtain ⟨hc, hcf⟩ := bcell hS; go_simp; try with_reducible rfl); simp only [Act.put, List.setIfInBounds_toArray, List.set_cons_zero, List.set_cons_succ])
    refine SeqO.nil0 fun w3 hS3 => ?_
    refine Ph.last ?_
    simp only [List.drop_succ_cons, List.drop_zero, List.take_succ_cons, List.take_zero, Nat.reduceSub, Nat.sub_zero]
    clear e0 f0 j0 j1 j2
    have HI3 := HI.step hS3
    have hC := HI3.C
    have c0 := hC.cell 5; have cf := hC.free 5
    simp only [List.getElem?_cons_zero, List.getElem?_cons_succ, z8, one8, two8] at c0
    clear hC HI hS3
    have HI : MulI w w.heap.size g6 g7 g8 x y (one8 p) (one8 q) (two8 Lo H) (w3.setCell ⟨g8, 5, none⟩ (.int .u64 0)) := HI3.put HD (Nat.le_refl _) rfl
    clear HI3
    go_wp2
    clear c0 cf
    revert HI
    generalize w3.setCell ⟨g8, 5, none⟩ (.int .u64 0) = w4
    intro HI
    rw [rounds_succ]
    have hA := HI.A; have hB := HI.B
    have e0 := hA.cell 0; have f0 := hB.cell 6
    simp only [List.getElem?_cons_zero, List.getElem?_cons_succ, one8] at e0 f0
    have j0 := HI.A.lt; have j1 := HI.B.lt; have j2 := HI.C.lt
    clear hA hB
    go_wp2
    refine wp_region_ph [(12, .free [])] (by kernel_rfl) (by kernel_rfl) ?_
    refine Ph.belowd ?_
    simp only [List.drop_succ_cons, List.drop_zero, List.take_succ_cons, List.take_zero, Nat.reduceSub, Nat.sub_zero]
    iterate 6 (refine SeqO.val (v := ?_) (by rfl) (by rfl) (fun w1 hS => ?_) ?_; rotate_left; (· obtain ⟨hc, hcf⟩ := bcell hS; go_simp; try with_reducible rfl); simp only [Act.put, List.setIfInBounds_toArray, List.set_cons_zero, List.set_cons_succ])
    refine SeqO.callv (by rfl) (by rfl) (by rfl) cf106 (by simp [Act.eval]) (fun w1 hS => HM0 w1) ?_
    simp only [Act.put, List.setIfInBounds_toArray, List.set_cons_zero, List.set_cons_succ]
    iterate 5 (refine SeqO.val (v := ?_) (by rfl) (by rfl) (fun w1 hS => ?_) ?_; rotate_left; (· obtain ⟨hc, hcf⟩ := bcell hS; go_simp; try with_reducible rfl); simp only [Act.put, List.setIfInBounds_toArray, List.set_cons_zero, List.set_cons_succ])
    refine SeqO.nil0 fun w3 hS3 => ?_
    refine Ph.last ?_
    simp only [List.drop_succ_cons, List.drop_zero, List.take_succ_cons, List.take_zero, Nat.reduceSub, Nat.sub_zero]
    clear e0 f0 j0 j1 j2
    have HI3 := HI.step hS3
    have hC := HI3.C
    have c0 := hC.cell 6; have cf := hC.free 6
    simp only [List.getElem?_cons_zero, List.getElem?_cons_succ, z8, one8, two8] at c0
    clear hC HI hS3
    have HI : MulI w w.heap.size g6 g7 g8 x y (one8 p) (one8 q) (two8 Lo H) (w3.setCell ⟨g8, 6, none⟩ (.int .u64 0)) := HI3.put HD (Nat.le_refl _) rfl
    clear HI3
    go_wp2
    clear c0 cf
    revert HI
    generalize w3.setCell ⟨g8, 6, none⟩ (.int .u64 0) = w4
    intro HI
    rw [rounds_succ]
    have hA := HI.A; have hB := HI.B
    have e0 := hA.cell 0; have f0 := hB.cell 7
    simp only [List.getElem?_cons_zero, List.getElem?_cons_succ, one8] at e0 f0
    have j0 := HI.A.lt; have j1 := HI.B.lt; have j2 := HI.C.lt
    clear hA hB
    go_wp2
    refine wp_region_ph [(12, .free [])] (by kernel_rfl) (by kernel_rfl) ?_
    refine Ph.belowd ?_
    simp only [List.drop_succ_cons, List.drop_zero, List.take_succ_cons, List.take_zero, Nat.reduceSub, Nat.sub_zero]
    iterate 6 (refine SeqO.val (v := ?_) (by rfl) (by rfl) (fun w1 hS => ?_) ?_; rotate_left; (· obtain ⟨hc, hcf⟩ := bcell hS; go_simp; try with_reducible rfl); simp only [Act.put, List.setIfInBounds_toArray, List.set_cons_zero, List.set_cons_succ])
    refine SeqO.callv (by rfl) (by rfl) (by rfl) cf106 (by simp [Act.eval]) (fun w1 hS => HM0 w1) ?_
    simp only [Act.put, List.setIfInBounds_toArray, List.set_cons_zero, List.set_cons_succ]
    iterate 5 (refine SeqO.val (v := ?_) (by rfl) (by rfl) (fun w1 hS => ?_) ?_; rotate_left; (· obtain ⟨hc, hcf⟩ := bcell hS; go_simp; try with_reducible rfl); simp only [Act.put, List.setIfInBounds_toArray, List.set_cons_zero, List.set_cons_succ])
    refine SeqO.nil0 fun w3 hS3 => ?_
    refine Ph.last ?_
    simp only [List.drop_succ_cons, List.drop_zero, List.take_succ_cons, List.take_zero, Nat.reduceSub, Nat.sub_zero]
    clear e0 f0 j0 j1 j2
    have HI3 := HI.step hS3
    have hC := HI3.C
    have c0 := hC.cell 7; have cf := hC.free 7
    simp only [List.getElem?_cons_zero, List.getElem?_cons_succ, z8, one8, two8] at c0
    clear hC HI hS3
    have HI : MulI w w.heap.size g6 g7 g8 x y (one8 p) (one8 q) (two8 Lo H) (w3.setCell ⟨g8, 7, none⟩ (.int .u64 0)) := HI3.put HD (Nat.le_refl _) rfl
    clear HI3
    go_wp2
    clear c0 cf
    revert HI
    generalize w3.setCell ⟨g8, 7, none⟩ (.int .u64 0) = w4
    intro HI
    rw [rounds_succ]; go_wp2
    have hA := HI.A
    have d0 := (hA).cell 0; have d1 := (hA).cell 1; have d2 := (hA).cell 2; have d3 := (hA).cell 3; have d4 := (hA).cell 4; have d5 := (hA).cell 5; have d6 := (hA).cell 6; have d7 := (hA).cell 7; have df := (hA).free
    simp only [List.getElem?_cons_zero, List.getElem?_cons_succ] at d0 d1 d2 d3 d4 d5 d6 d7
    simp only [one8] at d0 d1 d2 d3 d4 d5 d6 d7
    clear hA
    rw [rounds_succ]; go_wp2
    rw [rounds_succ]; go_wp2
    rw [rounds_succ]; go_wp2
    rw [rounds_succ]; go_wp2
    rw [rounds_succ]; go_wp2
    rw [rounds_succ]; go_wp2
    rw [rounds_succ]; go_wp2
    clear d0 d1 d2 d3 d4 d5 d6 d7 df
    have hC := HI.C; have hX := HI.X; have hY := HI.Y
    have c0 := (hC).cell 0; have c1 := (hC).cell 1; have c2 := (hC).cell 2; have c3 := (hC).cell 3; have c4 := (hC).cell 4; have c5 := (hC).cell 5; have c6 := (hC).cell 6; have c7 := (hC).cell 7; have cf := (hC).free
    simp only [List.getElem?_cons_zero, List.getElem?_cons_succ] at c0 c1 c2 c3 c4 c5 c6 c7
    have a0 := (hX).cell 0; have a1 := (hX).cell 1; have a2 := (hX).cell 2; have a3 := (hX).cell 3; have a4 := (hX).cell 4; have a5 := (hX).cell 5; have a6 := (hX).cell 6; have a7 := (hX).cell 7; have af := (hX).free
    simp only [List.getElem?_cons_zero, List.getElem?_cons_succ] at a0 a1 a2 a3 a4 a5 a6 a7
    have b0 := (hY).cell 0; have b1 := (hY).cell 1; have b2 := (hY).cell 2; have b3 := (hY).cell 3; have b4 := (hY).cell 4; have b5 := (hY).cell 5; have b6 := (hY).cell 6; have b7 := (hY).cell 7; have bf := (hY).free
    simp only [List.getElem?_cons_zero, List.getElem?_cons_succ] at b0 b1 b2 b3 b4 b5 b6 b7
    clear hC hX hY
    have hl : (two8 Lo H).ok := ⟨hLo, hH, isW0, isW0, isW0, isW0, isW0, isW0⟩
    have j0 := HI.X.lt; have j1 := HI.Y.lt; have j2 := HI.C.lt
    rw [rounds_succ]; go_wp2
    refine wp_region_ph [(9, .free [])] (by kernel_rfl) (by kernel_rfl) ?_
    refine Ph.belowd ?_
    simp only [List.drop_succ_cons, List.drop_zero, List.take_succ_cons, List.take_zero, Nat.reduceSub, Nat.sub_zero]
    iterate 3 (refine SeqO.val (v := ?_) (by rfl) (by rfl) (fun w1 hS => ?_) ?_; rotate_left; (· obtain ⟨hc, hcf⟩ := bcell hS; go_simp; try with_reducible rfl); simp only [Act.put, List.setIfInBounds_toArray, List.set_cons_zero, List.set_cons_succ])
    refine SeqO.callv (by rfl) (by rfl) (by rfl) cf109 (by simp [Act.eval]) (fun w1 hS => negC x w1) ?_
    simp only [Act.put, List.setIfInBounds_toArray, List.set_cons_zero, List.set_cons_succ]
    iterate 2 (refine SeqO.val (v := ?_) (by rfl) (by rfl) (fun w1 hS => ?_) ?_; rotate_left; (· obtain ⟨hc, hcf⟩ := bcell hS; go_simp; try with_reducible rfl); simp only [Act.put, List.setIfInBounds_toArray, List.set_cons_zero, List.set_cons_succ])
    refine SeqO.callv (by rfl) (by rfl) (by rfl) cf109 (by simp [Act.eval]) (fun w1 hS => negC y w1) ?_
    simp only [Act.put, List.setIfInBounds_toArray, List.set_cons_zero, List.set_cons_succ]
    iterate 1 (refine SeqO.val (v := ?_) (by rfl) (by rfl) (fun w1 hS => ?_) ?_; rotate_left; (· obtain ⟨hc, hcf⟩ := bcell hS; go_simp; try with_reducible rfl); simp only [Act.put, List.setIfInBounds_toArray, List.set_cons_zero, List.set_cons_succ])
    refine SeqO.callv (by rfl) (by rfl) (by rfl) cf108 (by simp [Act.eval]; cases topB x.h <;> cases topB y.h <;> rfl) (fun w1 hS => signedC (two8 Lo H) hl (topB x.h != topB y.h) HS.out w1) ?_
    simp only [Act.put, List.setIfInBounds_toArray, List.set_cons_zero, List.set_cons_succ]
    refine SeqO.nil0 fun w3 hS3 => ?_
    refine Ph.last ?_
    simp only [List.drop_succ_cons, List.drop_zero, List.take_succ_cons, List.take_zero, Nat.reduceSub, Nat.sub_zero]
    clear c0 c1 c2 c3 c4 c5 c6 c7 cf
    clear a0 a1 a2 a3 a4 a5 a6 a7 af
    clear b0 b1 b2 b3 b4 b5 b6 b7 bf
    have HI3 := HI.step hS3
    have hR := HI3.R; have hO := HI3.O
    have r0 := (hR).cell 0; have r1 := (hR).cell 1; have r2 := (hR).cell 2; have r3 := (hR).cell 3; have r4 := (hR).cell 4; have r5 := (hR).cell 5; have r6 := (hR).cell 6; have r7 := (hR).cell 7; have rf := (hR).free
    simp only [List.getElem?_cons_zero, List.getElem?_cons_succ] at r0 r1 r2 r3 r4 r5 r6 r7
    have o0 := hO.cell 0; have of := hO.free 0
    simp only [List.getElem?_cons_zero] at o0
    have hWW := HI3.W
    clear hR hO HI HI3 hS3
    go_wp2
    refine leaves_cons (f := 104) (args := #[.pointer (some ⟨w.heap.size + 1 + 1, 0, none⟩), .pointer (some ⟨w.heap.size + 1 + 1 + 1, 0, none⟩)]) (by simp) (by simp [go_sem]) ?_
    refine (mulcC _ _ _).mono ?_
    rintro e u' w'' ⟨rfl, rfl, rfl⟩
    simp [Leaves, settle, results, Tryz.results86, go_sem, *]
    refine ⟨by rw [EH.out, EL.out]; exact ⟨rfl, rfl, rfl, rfl, rfl, rfl, rfl, rfl⟩, (((((((((hWW).setCell (by first | omega | (simp; done) | (simp; omega)) _).setCell (by first | omega | (simp; done) | (simp; omega)) _).setCell (by first | omega | (simp; done) | (simp; omega)) _).setCell (by first | omega | (simp; done) | (simp; omega)) _).setCell (by first | omega | (simp; done) | (simp; omega)) _).setCell (by first | omega | (simp; done) | (simp; omega)) _).setCell (by first | omega | (simp; done) | (simp; omega)) _).setCell (by first | omega | (simp; done) | (simp; omega)) _).setCell (by first | omega | (simp; done) | (simp; omega)) _⟩
end Go.Proofs.YtbcjnckejkjfeaaGreat
namespace Go.Proofs.YtbcjnckejkjfeaaGreat
set_option linter.unusedVariables false
set_option linter.unusedSimpArgs false
open Go.RowKit Go.NP
def i63 (n : Int) : Prop := -9223372036854775808 ≤ n ∧ n < 9223372036854775808
theorem lo_eq (n : Int) : lo n = n % 18446744073709551616 := IntKind.wrap_u64 n
theorem sg_pos {n : Int} (h : i63 n) (h0 : 0 ≤ n) : sg n = 0 := by
  obtain ⟨h1, h2⟩ := h
  unfold sg
  rw [IntKind.wrap_u64, show n / 9223372036854775808 = 0 by omega]; rfl
theorem sg_neg {n : Int} (h : i63 n) (h0 : n < 0) : sg n = 18446744073709551615 := by
  obtain ⟨h1, h2⟩ := h
  unfold sg
  rw [IntKind.wrap_u64, show n / 9223372036854775808 = -1 by omega]; rfl
theorem of8_pos {n : Int} (h : i63 n) (h0 : 0 ≤ n) : of8 n = one8 n := by
  unfold of8 one8
  rw [sg_pos h h0, lo_eq, show n % 18446744073709551616 = n by obtain ⟨h1, h2⟩ := h; omega]
theorem topB_pos {n : Int} (h : i63 n) (h0 : 0 ≤ n) : topB (of8 n).h = false := by
  show topB (sg n) = false
  rw [sg_pos h h0]; rfl
theorem topB_neg {n : Int} (h : i63 n) (h0 : n < 0) : topB (of8 n).h = true := by
  show topB (sg n) = true
  rw [sg_neg h h0]; rfl
theorem lo_is (n : Int) : isW (lo n) := by rw [lo_eq]; unfold isW; omega
theorem sg_is (n : Int) : isW (sg n) := by unfold sg; rw [IntKind.wrap_u64]; unfold isW; omega
theorem of8_ok (n : Int) : (of8 n).ok := ⟨lo_is n, sg_is n, sg_is n, sg_is n, sg_is n, sg_is n, sg_is n, sg_is n⟩
theorem isWm : isW 18446744073709551615 := by unfold isW; omega
/-- 0 less a number of one word. -/
theorem minus_one {m : Int} (h0 : 0 ≤ m) (h1 : m < 9223372036854775808) : minus8 (one8 m) = of8 (-m) := by
  have w0 : isW m := ⟨h0, by omega⟩
  unfold minus8 plus8 not8 one8 z8 k7 k6 k5 k4 k3 k2 k1
  simp only [nt_eq w0, nt_eq isW0]
  unfold of8
  by_cases hm : m = 0
  · subst hm
    rw [sg_pos (n := -0) ⟨by decide, by decide⟩ (by decide), lo_eq]
    rfl
  · have hs := sg_neg (n := -m) ⟨by omega, by omega⟩ (by omega)
    rw [hs, lo_eq]
    have c1 : c64 (18446744073709551615 - m) 0 1 = 0 := by unfold c64; omega
    have c2 : c64 (18446744073709551615 - 0) 0 0 = 0 := by unfold c64; decide
    have e1 : s64 (18446744073709551615 - m) 0 1 = -m % 18446744073709551616 := by unfold s64; omega
    have e2 : s64 (18446744073709551615 - 0) 0 0 = 18446744073709551615 := by unfold s64; decide
    simp only [c1, c2, e1, e2]
theorem minus_of {n : Int} (h : i63 n) (h0 : n < 0) : minus8 (of8 n) = one8 (-n) := by
  obtain ⟨h1, h2⟩ := h
  unfold minus8 plus8 not8 of8 one8 z8 k7 k6 k5 k4 k3 k2 k1
  rw [sg_neg ⟨h1, h2⟩ h0]
  simp only [nt_eq (lo_is n), nt_eq isWm]
  rw [lo_eq, show n % 18446744073709551616 = n + 18446744073709551616 by omega]
  have c1 : c64 (18446744073709551615 - (n + 18446744073709551616)) 0 1 = 0 := by unfold c64; omega
  have c2 : c64 (18446744073709551615 - 18446744073709551615) 0 0 = 0 := by unfold c64; decide
  have e1 : s64 (18446744073709551615 - (n + 18446744073709551616)) 0 1 = -n := by unfold s64; omega
  have e2 : s64 (18446744073709551615 - 18446744073709551615) 0 0 = 0 := by unfold s64; decide
  simp only [c1, c2, e1, e2]
def mag (n : Int) : Int := if n < 0 then -n else n
theorem size_of {n : Int} (h : i63 n) : size8 (of8 n) = one8 (mag n) := by
  unfold size8 mag
  by_cases h0 : n < 0
  · rw [topB_neg h h0, if_pos rfl, if_pos h0]; exact minus_of h h0
  · rw [topB_pos h (by omega), if_neg (by simp), if_neg h0]; exact of8_pos h (by omega)
theorem mag_mul {a b : Int} (ha : -2147483648 ≤ a ∧ a ≤ 2147483648) (hb : -2147483648 ≤ b ∧ b ≤ 2147483648) :
    0 ≤ mag a * mag b ∧ mag a * mag b ≤ 4611686018427387904 ∧ a * b = (if (decide (a < 0) != decide (b < 0)) = true then -(mag a * mag b) else mag a * mag b) := by
  have ma : 0 ≤ mag a ∧ mag a ≤ 2147483648 := by unfold mag; split <;> omega
  have mb : 0 ≤ mag b ∧ mag b ≤ 2147483648 := by unfold mag; split <;> omega
  refine ⟨Int.mul_nonneg ma.1 mb.1, ?_, ?_⟩
  · have : mag a * mag b ≤ 2147483648 * 2147483648 := Int.mul_le_mul ma.2 mb.2 mb.1 (by decide)
    omega
  · unfold mag
    by_cases h1 : a < 0 <;> by_cases h2 : b < 0 <;> simp [h1, h2, Int.neg_mul, Int.mul_neg]
theorem topB_of {n : Int} (h : i63 n) : topB (of8 n).h = decide (n < 0) := by
  by_cases h0 : n < 0
  · rw [topB_neg h h0, decide_eq_true h0]
  · rw [topB_pos h (by omega), decide_eq_false h0]
theorem sgn_of {m : Int} (h0 : 0 ≤ m) (h1 : m ≤ 4611686018427387904) (s : Bool) : sgn8 (one8 m) s = of8 (if s = true then -m else m) ∧ (sgn8 (one8 m) s = z8 ∨ topB (sgn8 (one8 m) s).h = s) := by
  cases s with
  | false =>
    have e : sgn8 (one8 m) false = one8 m := rfl
    rw [e]
    refine ⟨by rw [if_neg (by simp)]; exact (of8_pos ⟨by omega, by omega⟩ h0).symm, .inr rfl⟩
  | true =>
    have e : sgn8 (one8 m) true = minus8 (one8 m) := rfl
    rw [e, if_pos rfl, minus_one h0 (by omega)]
    refine ⟨rfl, ?_⟩
    by_cases hm : m = 0
    · subst hm; exact .inl (by unfold of8 z8; rw [sg_pos (n := -0) ⟨by decide, by decide⟩ (by decide), lo_eq]; rfl)
    · exact .inr (topB_neg ⟨by omega, by omega⟩ (by omega))
/-- The product of two small numbers. -/
theorem mulSC (a b : Int) (ha : -2147483648 ≤ a ∧ a ≤ 2147483648) (hb : -2147483648 ≤ b ∧ b ≤ 2147483648) (w : World) :
    RetB Tryz.prog 86 #[.agg #[.int .u64 (of8 a).a, .int .u64 (of8 a).b, .int .u64 (of8 a).c, .int .u64 (of8 a).d, .int .u64 (of8 a).e, .int .u64 (of8 a).f, .int .u64 (of8 a).g, .int .u64 (of8 a).h], .agg #[.int .u64 (of8 b).a, .int .u64 (of8 b).b, .int .u64 (of8 b).c, .int .u64 (of8 b).d, .int .u64 (of8 b).e, .int .u64 (of8 b).f, .int .u64 (of8 b).g, .int .u64 (of8 b).h]] w (.tuple #[.agg #[.int .u64 (of8 (a * b)).a, .int .u64 (of8 (a * b)).b, .int .u64 (of8 (a * b)).c, .int .u64 (of8 (a * b)).d, .int .u64 (of8 (a * b)).e, .int .u64 (of8 (a * b)).f, .int .u64 (of8 (a * b)).g, .int .u64 (of8 (a * b)).h], .bool true]) := by
  have ia : i63 a := ⟨by omega, by omega⟩
  have ib : i63 b := ⟨by omega, by omega⟩
  obtain ⟨m0, m1, hm⟩ := mag_mul ha hb
  have wa : isW (mag a) := by unfold mag isW; split <;> omega
  have wb : isW (mag b) := by unfold mag isW; split <;> omega
  obtain ⟨e1, e2⟩ := mul64_eq wa wb
  have e3 : two8 (loR (mag a) (mag b)) (hiR (mag a) (mag b)) = one8 (mag a * mag b) := by
    unfold two8 one8
    rw [e1, e2]
    rw [show mag a * mag b % 18446744073709551616 = mag a * mag b by omega, show mag a * mag b / 18446744073709551616 = 0 by omega]
  have es : (topB (of8 a).h != topB (of8 b).h) = (decide (a < 0) != decide (b < 0)) := by rw [topB_of ia, topB_of ib]
  obtain ⟨g1, g2⟩ := sgn_of m0 m1 (decide (a < 0) != decide (b < 0))
  have := mulC (of8 a) (of8 b) (of8_ok a) (of8_ok b) (mag a) (mag b) (size_of ia) (size_of ib) wa wb (by rw [e3, es]; exact g2) w
  rw [e3, es, g1, ← hm] at this
  exact this
theorem cmp_of {a b : Int} (ha : i63 a) (hb : i63 b) : cmp8 (of8 a) (of8 b) = if a = b then 0 else if a < b then -1 else 1 := by
  unfold cmp8
  rw [topB_of ha, topB_of hb]
  obtain ⟨a0, a1⟩ := ha
  obtain ⟨b0, b1⟩ := hb
  by_cases h1 : a < 0 <;> by_cases h2 : b < 0
  · simp only [h1, h2, decide_true, if_true]
    unfold above8 of8
    rw [sg_neg ⟨a0, a1⟩ h1, sg_neg ⟨b0, b1⟩ h2]
    simp only [step8_eq]
    rw [lo_eq, lo_eq]
    unfold step8
    by_cases h : a = b
    · rw [if_pos h, if_pos (by rw [h])]
    · rw [if_neg h, if_neg (by omega)]
      by_cases h' : a < b
      · rw [if_pos h', if_pos (by omega)]
      · rw [if_neg h', if_neg (by omega)]
  · simp only [h1, h2, decide_true, decide_false, Bool.true_eq_false, if_false, if_true]
    rw [if_neg (by omega), if_pos (by omega)]
  · simp only [h1, h2, decide_true, decide_false, Bool.false_eq_true, if_false]
    rw [if_neg (by omega), if_neg (by omega)]
  · simp only [h1, h2, decide_false, if_true]
    unfold above8
    rw [of8_pos ⟨a0, a1⟩ (by omega), of8_pos ⟨b0, b1⟩ (by omega)]
    unfold one8
    simp only [step8_eq]
    unfold step8
    rfl
theorem cmpSC (a b : Int) (ha : i63 a) (hb : i63 b) (w : World) : RetB Tryz.prog 88 #[.agg #[.int .u64 (of8 a).a, .int .u64 (of8 a).b, .int .u64 (of8 a).c, .int .u64 (of8 a).d, .int .u64 (of8 a).e, .int .u64 (of8 a).f, .int .u64 (of8 a).g, .int .u64 (of8 a).h], .agg #[.int .u64 (of8 b).a, .int .u64 (of8 b).b, .int .u64 (of8 b).c, .int .u64 (of8 b).d, .int .u64 (of8 b).e, .int .u64 (of8 b).f, .int .u64 (of8 b).g, .int .u64 (of8 b).h]] w (.int .i64 (if a = b then 0 else if a < b then -1 else 1)) :=
  (cmpC _ _ w).eq (by rw [cmp_of ha hb])
end Go.Proofs.YtbcjnckejkjfeaaGreat
