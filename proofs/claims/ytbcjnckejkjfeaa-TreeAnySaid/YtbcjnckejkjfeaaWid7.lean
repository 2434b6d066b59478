/- Integers of 512 bits as eight words: the product of two whose sizes are one word. No condition. -/
import Derived.Test.YtbcjnckejkjfeaaWid6
namespace Go.Proofs.Ytbcjnckejkjfeaa
set_option linter.unusedVariables false
set_option linter.unusedSimpArgs false
open Go.RowKit Go.NP
def one8 (p : Int) : L8 := ⟨p, 0, 0, 0, 0, 0, 0, 0⟩
def two8 (p q : Int) : L8 := ⟨p, q, 0, 0, 0, 0, 0, 0⟩
theorem add64_l {x : Int} (h : isW x) (w : World) : (callFunc 92 #[.int .u64 x, .int .u64 0, .int .u64 0]).run Try.prog w = .ok (.value (.tuple #[.int .u64 x, .int .u64 0])) w := by
  rw [add64_run x 0 0 h isW0 ⟨by decide, by decide⟩]
  obtain ⟨h0, h1⟩ := h
  unfold s64 c64
  rw [show (x + 0 + 0) % 18446744073709551616 = x by omega, show (x + 0 + 0) / 18446744073709551616 = 0 by omega]
theorem add64_r {x : Int} (h : isW x) (w : World) : (callFunc 92 #[.int .u64 0, .int .u64 x, .int .u64 0]).run Try.prog w = .ok (.value (.tuple #[.int .u64 x, .int .u64 0])) w := by
  rw [add64_run 0 x 0 isW0 h ⟨by decide, by decide⟩]
  obtain ⟨h0, h1⟩ := h
  unfold s64 c64
  rw [show (0 + x + 0) % 18446744073709551616 = x by omega, show (0 + x + 0) / 18446744073709551616 = 0 by omega]
theorem mul64B (x y : Int) (w : World) : RetB Try.prog 91 #[.int .u64 x, .int .u64 y] w (.tuple #[.int .u64 (hiR x y), .int .u64 (loR x y)]) :=
  (mul64C x y w).mono fun e w' ⟨he, hw⟩ => ⟨he, hw ▸ Below.refl _ _⟩
theorem mul64Z (x : Int) (h : isW x) (w : World) : RetB Try.prog 91 #[.int .u64 x, .int .u64 0] w (.tuple #[.int .u64 0, .int .u64 0]) :=
  (mul64B x 0 w).eq (by obtain ⟨h1, h2⟩ := mul64_eq h isW0; rw [h1, h2, Int.mul_zero]; rfl)
theorem hilo_is {p q : Int} (hp : isW p) (hq : isW q) : isW (hiR p q) ∧ isW (loR p q) := by
  obtain ⟨h1, h2⟩ := mul64_eq hp hq
  rw [h1, h2]
  obtain ⟨p0, p1⟩ := hp
  obtain ⟨q0, q1⟩ := hq
  have hm : p * q ≤ 18446744073709551615 * 18446744073709551615 := Int.mul_le_mul (by omega) (by omega) q0 (by decide)
  have h0 : 0 ≤ p * q := Int.mul_nonneg p0 q0
  unfold isW
  generalize p * q = m at *
  omega
structure MulI (W : World) (n g6 g7 g8 : Nat) (x y sx sy l : L8) (w : World) : Prop where
  X : Box w n [.int .u64 x.a, .int .u64 x.b, .int .u64 x.c, .int .u64 x.d, .int .u64 x.e, .int .u64 x.f, .int .u64 x.g, .int .u64 x.h] 110
  Y : Box w (n + 1) [.int .u64 y.a, .int .u64 y.b, .int .u64 y.c, .int .u64 y.d, .int .u64 y.e, .int .u64 y.f, .int .u64 y.g, .int .u64 y.h] 110
  R : Box w (n + 1 + 1) [.int .u64 0, .int .u64 0, .int .u64 0, .int .u64 0, .int .u64 0, .int .u64 0, .int .u64 0, .int .u64 0] 110
  O : Box w (n + 1 + 1 + 1) [.bool false] 4
  A : Box w g6 [.int .u64 sx.a, .int .u64 sx.b, .int .u64 sx.c, .int .u64 sx.d, .int .u64 sx.e, .int .u64 sx.f, .int .u64 sx.g, .int .u64 sx.h] 128
  B : Box w g7 [.int .u64 sy.a, .int .u64 sy.b, .int .u64 sy.c, .int .u64 sy.d, .int .u64 sy.e, .int .u64 sy.f, .int .u64 sy.g, .int .u64 sy.h] 128
  C : Box w g8 [.int .u64 l.a, .int .u64 l.b, .int .u64 l.c, .int .u64 l.d, .int .u64 l.e, .int .u64 l.f, .int .u64 l.g, .int .u64 l.h] 128
  W : Below W.heap.size W w
theorem MulI.step {W : World} {n g6 g7 g8 : Nat} {x y sx sy l : L8} {w w' : World} (h : MulI W n g6 g7 g8 x y sx sy l w) (hb : Below w.heap.size w w') : MulI W n g6 g7 g8 x y sx sy l w' :=
  ⟨h.X.step hb, h.Y.step hb, h.R.step hb, h.O.step hb, h.A.step hb, h.B.step hb, h.C.step hb, h.W.trans (hb.mono h.W.size)⟩
structure MulD (n g6 g7 g8 : Nat) : Prop where
  a : n + 3 < g6
  b : n + 3 < g7
  c : n + 3 < g8
  d : g8 ≠ g6
  e : g8 ≠ g7
theorem MulI.put {W : World} {n g6 g7 g8 : Nat} {x y sx sy l l' : L8} {w : World} (h : MulI W n g6 g7 g8 x y sx sy l w) (hd : MulD n g6 g7 g8) (hn : W.heap.size ≤ n) {j : Nat} {v : Value} (hl : ([.int .u64 l.a, .int .u64 l.b, .int .u64 l.c, .int .u64 l.d, .int .u64 l.e, .int .u64 l.f, .int .u64 l.g, .int .u64 l.h] : List Value).set j v = [.int .u64 l'.a, .int .u64 l'.b, .int .u64 l'.c, .int .u64 l'.d, .int .u64 l'.e, .int .u64 l'.f, .int .u64 l'.g, .int .u64 l'.h]) :
    MulI W n g6 g7 g8 x y sx sy l' (w.setCell ⟨g8, j, none⟩ v) := by
  obtain ⟨a, b, c, d, e⟩ := hd
  exact ⟨h.X.other (by simp; omega) _, h.Y.other (by simp; omega) _, h.R.other (by simp; omega) _, h.O.other (by simp; omega) _, h.A.other d _, h.B.other e _, hl ▸ h.C.set j v, h.W.setCell (by simp; omega) _⟩
set_option maxRecDepth 100000 in
set_option maxHeartbeats 8000000 in
theorem mulC (x y : L8) (hx : x.ok) (hy : y.ok) (p q : Int) (hp : size8 x = one8 p) (hq : size8 y = one8 q) (hpw : isW p) (hqw : isW q)
    (hs : sgn8 (two8 (loR p q) (hiR p q)) (topB x.h != topB y.h) = z8 ∨ topB (sgn8 (two8 (loR p q) (hiR p q)) (topB x.h != topB y.h)).h = (topB x.h != topB y.h)) (w : World) :
    RetB Try.prog 72 #[.agg #[.int .u64 x.a, .int .u64 x.b, .int .u64 x.c, .int .u64 x.d, .int .u64 x.e, .int .u64 x.f, .int .u64 x.g, .int .u64 x.h], .agg #[.int .u64 y.a, .int .u64 y.b, .int .u64 y.c, .int .u64 y.d, .int .u64 y.e, .int .u64 y.f, .int .u64 y.g, .int .u64 y.h]] w (.tuple #[.agg #[.int .u64 (sgn8 (two8 (loR p q) (hiR p q)) (topB x.h != topB y.h)).a, .int .u64 (sgn8 (two8 (loR p q) (hiR p q)) (topB x.h != topB y.h)).b, .int .u64 (sgn8 (two8 (loR p q) (hiR p q)) (topB x.h != topB y.h)).c, .int .u64 (sgn8 (two8 (loR p q) (hiR p q)) (topB x.h != topB y.h)).d, .int .u64 (sgn8 (two8 (loR p q) (hiR p q)) (topB x.h != topB y.h)).e, .int .u64 (sgn8 (two8 (loR p q) (hiR p q)) (topB x.h != topB y.h)).f, .int .u64 (sgn8 (two8 (loR p q) (hiR p q)) (topB x.h != topB y.h)).g, .int .u64 (sgn8 (two8 (loR p q) (hiR p q)) (topB x.h != topB y.h)).h], .bool true]) := by
  have hmf : ∀ (fn : Fn) (first cap : Array Value) (w : World), (Instr.makeFunc fn first cap).run Try.prog w = .ok (.func fn first cap) w := fun _ _ _ _ => rfl
  have HP := Lib.hid hp; have HQ := Lib.hid hq; have HS := Lib.hid hs
  clear hp hq hs
  unfold RetB
  go_enter_defers Try.func72, Try.ntmps72
  go_wp2
  refine wp_region_ph [(8, .free [6, 7])] (by kernel_rfl) (by kernel_rfl) ?_
  refine Ph.maded [(6, [.int .u64 0, .int .u64 0, .int .u64 0, .int .u64 0, .int .u64 0, .int .u64 0, .int .u64 0, .int .u64 0], 128), (7, [.int .u64 0, .int .u64 0, .int .u64 0, .int .u64 0, .int .u64 0, .int .u64 0, .int .u64 0, .int .u64 0], 128)] (by rfl) ?_
  simp only [List.drop_succ_cons, List.drop_zero, List.take_succ_cons, List.take_zero, Nat.reduceSub, Nat.sub_zero]
  iterate 2 (refine SeqO.val (v := ?_) (by rfl) (by rfl) (fun w1 hS => ?_) ?_; rotate_left; (· obtain ⟨hc, hcf⟩ := bcell hS; go_simp; try with_reducible rfl); simp only [Act.put, List.setIfInBounds_toArray, List.set_cons_zero, List.set_cons_succ])
  refine SeqO.callv (by rfl) (by rfl) (by rfl) cf90 (by simp [Act.eval]) (fun w1 hS => (size8C x hx w1).eq (by rw [HP.out])) ?_
  simp only [Act.put, List.setIfInBounds_toArray, List.set_cons_zero, List.set_cons_succ]
  iterate 2 (refine SeqO.val (v := ?_) (by rfl) (by rfl) (fun w1 hS => ?_) ?_; rotate_left; (· obtain ⟨hc, hcf⟩ := bcell hS; go_simp; try with_reducible rfl); simp only [Act.put, List.setIfInBounds_toArray, List.set_cons_zero, List.set_cons_succ])
  refine SeqO.callv (by rfl) (by rfl) (by rfl) cf90 (by simp [Act.eval]) (fun w1 hS => (size8C y hy w1).eq (by rw [HQ.out])) ?_
  simp only [Act.put, List.setIfInBounds_toArray, List.set_cons_zero, List.set_cons_succ]
  refine SeqO.alloc (cs := [.int .u64 0, .int .u64 0, .int .u64 0, .int .u64 0, .int .u64 0, .int .u64 0, .int .u64 0, .int .u64 0]) (Ty := 128) (by rfl) ⟨128, by simp⟩ (by rfl) (by simp) (by rfl) (fun w => by go_simp) ?_
  refine SeqO.alloc (cs := [.int .u64 0, .int .u64 0, .int .u64 0, .int .u64 0, .int .u64 0, .int .u64 0, .int .u64 0, .int .u64 0]) (Ty := 128) (by rfl) ⟨128, by simp⟩ (by rfl) (by simp) (by rfl) (fun w => by go_simp) ?_
  refine SeqO.nil fun L u w1 hL hA => ?_
  obtain ⟨g6, hg6, hge6, hb6⟩ := hA.made (6, [.int .u64 0, .int .u64 0, .int .u64 0, .int .u64 0, .int .u64 0, .int .u64 0, .int .u64 0, .int .u64 0], 128) (by simp) (hL 6 (by omega))
  obtain ⟨g7, hg7, hge7, hb7⟩ := hA.made (7, [.int .u64 0, .int .u64 0, .int .u64 0, .int .u64 0, .int .u64 0, .int .u64 0, .int .u64 0, .int .u64 0], 128) (by simp) (hL 7 (by omega))
  have hne : g6 ≠ g7 := by
    have := hA.ne (6, [.int .u64 0, .int .u64 0, .int .u64 0, .int .u64 0, .int .u64 0, .int .u64 0, .int .u64 0, .int .u64 0], 128) (by simp) (7, [.int .u64 0, .int .u64 0, .int .u64 0, .int .u64 0, .int .u64 0, .int .u64 0, .int .u64 0, .int .u64 0], 128) (by simp) (hL 6 (by omega)) (hL 7 (by omega)) (by simp)
    intro e
    rw [hg6, hg7, e] at this
    exact this rfl
  have hS := hA.below
  clear hA hL
  simp only [List.nil_append, List.cons_append, List.foldl_cons, List.foldl_nil, hg6, hg7]
  refine Ph.last ?_
  simp only [List.drop_succ_cons, List.drop_zero, List.take_succ_cons, List.take_zero, Nat.reduceSub, Nat.sub_zero]
  clear hg6 hg7
  have k6 : w.heap.size + 3 < g6 := by simp at hge6; omega
  have k7 : w.heap.size + 3 < g7 := by simp at hge7; omega
  clear hge6 hge7
  have hX : Box w1 w.heap.size [.int .u64 x.a, .int .u64 x.b, .int .u64 x.c, .int .u64 x.d, .int .u64 x.e, .int .u64 x.f, .int .u64 x.g, .int .u64 x.h] 110 := ((((Box.new rfl).alloc _).alloc _).alloc _).step hS
  have hY : Box w1 (w.heap.size + 1) [.int .u64 y.a, .int .u64 y.b, .int .u64 y.c, .int .u64 y.d, .int .u64 y.e, .int .u64 y.f, .int .u64 y.g, .int .u64 y.h] 110 := (((Box.new (by simp)).alloc _).alloc _).step hS
  have hR : Box w1 (w.heap.size + 1 + 1) [.int .u64 0, .int .u64 0, .int .u64 0, .int .u64 0, .int .u64 0, .int .u64 0, .int .u64 0, .int .u64 0] 110 := ((Box.new (by simp)).alloc _).step hS
  have hO : Box w1 (w.heap.size + 1 + 1 + 1) [.bool false] 4 := (Box.new (by simp)).step hS
  have hA : Box w1 g6 [.int .u64 0, .int .u64 0, .int .u64 0, .int .u64 0, .int .u64 0, .int .u64 0, .int .u64 0, .int .u64 0] 128 := hb6
  have hB : Box w1 g7 [.int .u64 0, .int .u64 0, .int .u64 0, .int .u64 0, .int .u64 0, .int .u64 0, .int .u64 0, .int .u64 0] 128 := hb7
  have hW : Below w.heap.size w w1 := (((((Below.refl _ _).alloc (Nat.le_refl _) _).alloc (by simp) _).alloc (by simp; omega) _).alloc (by simp; omega) _).trans (hS.mono (by simp; omega))
  clear hb6 hb7 hS
  have a6 := hA.lt; have a7 := hB.lt
  have HD : MulD w.heap.size g6 g7 w1.heap.size := ⟨k6, k7, by omega, by omega, by omega⟩
  have HI : MulI w w.heap.size g6 g7 w1.heap.size x y (one8 p) (one8 q) z8 (((((((((((((((((w1.setCell ⟨g6, 0, none⟩ (.int .u64 (one8 p).a)).setCell ⟨g6, 1, none⟩ (.int .u64 (one8 p).b)).setCell ⟨g6, 2, none⟩ (.int .u64 (one8 p).c)).setCell ⟨g6, 3, none⟩ (.int .u64 (one8 p).d)).setCell ⟨g6, 4, none⟩ (.int .u64 (one8 p).e)).setCell ⟨g6, 5, none⟩ (.int .u64 (one8 p).f)).setCell ⟨g6, 6, none⟩ (.int .u64 (one8 p).g)).setCell ⟨g6, 7, none⟩ (.int .u64 (one8 p).h)).setCell ⟨g7, 0, none⟩ (.int .u64 (one8 q).a)).setCell ⟨g7, 1, none⟩ (.int .u64 (one8 q).b)).setCell ⟨g7, 2, none⟩ (.int .u64 (one8 q).c)).setCell ⟨g7, 3, none⟩ (.int .u64 (one8 q).d)).setCell ⟨g7, 4, none⟩ (.int .u64 (one8 q).e)).setCell ⟨g7, 5, none⟩ (.int .u64 (one8 q).f)).setCell ⟨g7, 6, none⟩ (.int .u64 (one8 q).g)).setCell ⟨g7, 7, none⟩ (.int .u64 (one8 q).h)).alloc (.cells #[.int .u64 0, .int .u64 0, .int .u64 0, .int .u64 0, .int .u64 0, .int .u64 0, .int .u64 0, .int .u64 0] 128)) :=
    ⟨(((((((((((((((((hX).other (by simp; omega) _).other (by simp; omega) _).other (by simp; omega) _).other (by simp; omega) _).other (by simp; omega) _).other (by simp; omega) _).other (by simp; omega) _).other (by simp; omega) _).other (by simp; omega) _).other (by simp; omega) _).other (by simp; omega) _).other (by simp; omega) _).other (by simp; omega) _).other (by simp; omega) _).other (by simp; omega) _).other (by simp; omega) _).alloc _, (((((((((((((((((hY).other (by simp; omega) _).other (by simp; omega) _).other (by simp; omega) _).other (by simp; omega) _).other (by simp; omega) _).other (by simp; omega) _).other (by simp; omega) _).other (by simp; omega) _).other (by simp; omega) _).other (by simp; omega) _).other (by simp; omega) _).other (by simp; omega) _).other (by simp; omega) _).other (by simp; omega) _).other (by simp; omega) _).other (by simp; omega) _).alloc _, (((((((((((((((((hR).other (by simp; omega) _).other (by simp; omega) _).other (by simp; omega) _).other (by simp; omega) _).other (by simp; omega) _).other (by simp; omega) _).other (by simp; omega) _).other (by simp; omega) _).other (by simp; omega) _).other (by simp; omega) _).other (by simp; omega) _).other (by simp; omega) _).other (by simp; omega) _).other (by simp; omega) _).other (by simp; omega) _).other (by simp; omega) _).alloc _, (((((((((((((((((hO).other (by simp; omega) _).other (by simp; omega) _).other (by simp; omega) _).other (by simp; omega) _).other (by simp; omega) _).other (by simp; omega) _).other (by simp; omega) _).other (by simp; omega) _).other (by simp; omega) _).other (by simp; omega) _).other (by simp; omega) _).other (by simp; omega) _).other (by simp; omega) _).other (by simp; omega) _).other (by simp; omega) _).other (by simp; omega) _).alloc _, (((((((((((((((((hA).set 0 _).set 1 _).set 2 _).set 3 _).set 4 _).set 5 _).set 6 _).set 7 _).other (fun e => hne e.symm) _).other (fun e => hne e.symm) _).other (fun e => hne e.symm) _).other (fun e => hne e.symm) _).other (fun e => hne e.symm) _).other (fun e => hne e.symm) _).other (fun e => hne e.symm) _).other (fun e => hne e.symm) _).alloc _, (((((((((((((((((hB).other hne _).other hne _).other hne _).other hne _).other hne _).other hne _).other hne _).other hne _).set 0 _).set 1 _).set 2 _).set 3 _).set 4 _).set 5 _).set 6 _).set 7 _).alloc _, Box.new (by simp), (((((((((((((((((hW).setCell (by first | (simp; omega) | omega) _).setCell (by first | (simp; omega) | omega) _).setCell (by first | (simp; omega) | omega) _).setCell (by first | (simp; omega) | omega) _).setCell (by first | (simp; omega) | omega) _).setCell (by first | (simp; omega) | omega) _).setCell (by first | (simp; omega) | omega) _).setCell (by first | (simp; omega) | omega) _).setCell (by first | (simp; omega) | omega) _).setCell (by first | (simp; omega) | omega) _).setCell (by first | (simp; omega) | omega) _).setCell (by first | (simp; omega) | omega) _).setCell (by first | (simp; omega) | omega) _).setCell (by first | (simp; omega) | omega) _).setCell (by first | (simp; omega) | omega) _).setCell (by first | (simp; omega) | omega) _).alloc (by simp; omega) _⟩
  have a0 := (hA).cell 0; have a1 := (hA).cell 1; have a2 := (hA).cell 2; have a3 := (hA).cell 3; have a4 := (hA).cell 4; have a5 := (hA).cell 5; have a6 := (hA).cell 6; have a7 := (hA).cell 7; have af := (hA).free
  simp only [List.getElem?_cons_zero, List.getElem?_cons_succ] at a0 a1 a2 a3 a4 a5 a6 a7
  have b0 := (hB).cell 0; have b1 := (hB).cell 1; have b2 := (hB).cell 2; have b3 := (hB).cell 3; have b4 := (hB).cell 4; have b5 := (hB).cell 5; have b6 := (hB).cell 6; have b7 := (hB).cell 7; have bf := (hB).free
  simp only [List.getElem?_cons_zero, List.getElem?_cons_succ] at b0 b1 b2 b3 b4 b5 b6 b7
  clear hX hY hR hO hA hB
  go_wp2
  clear a0 a1 a2 a3 a4 a5 a6 a7 af
  clear b0 b1 b2 b3 b4 b5 b6 b7 bf
  revert HI HD
  generalize ((((((((((((((((w1.setCell ⟨g6, 0, none⟩ (.int .u64 (one8 p).a)).setCell ⟨g6, 1, none⟩ (.int .u64 (one8 p).b)).setCell ⟨g6, 2, none⟩ (.int .u64 (one8 p).c)).setCell ⟨g6, 3, none⟩ (.int .u64 (one8 p).d)).setCell ⟨g6, 4, none⟩ (.int .u64 (one8 p).e)).setCell ⟨g6, 5, none⟩ (.int .u64 (one8 p).f)).setCell ⟨g6, 6, none⟩ (.int .u64 (one8 p).g)).setCell ⟨g6, 7, none⟩ (.int .u64 (one8 p).h)).setCell ⟨g7, 0, none⟩ (.int .u64 (one8 q).a)).setCell ⟨g7, 1, none⟩ (.int .u64 (one8 q).b)).setCell ⟨g7, 2, none⟩ (.int .u64 (one8 q).c)).setCell ⟨g7, 3, none⟩ (.int .u64 (one8 q).d)).setCell ⟨g7, 4, none⟩ (.int .u64 (one8 q).e)).setCell ⟨g7, 5, none⟩ (.int .u64 (one8 q).f)).setCell ⟨g7, 6, none⟩ (.int .u64 (one8 q).g)).setCell ⟨g7, 7, none⟩ (.int .u64 (one8 q).h)).alloc (.cells #[.int .u64 0, .int .u64 0, .int .u64 0, .int .u64 0, .int .u64 0, .int .u64 0, .int .u64 0, .int .u64 0] 128) = w2
  generalize w1.heap.size = g8
  intro HD HI
  clear hne k6 k7 a6 a7 hW
  by_cases hp0 : p = 0
  · subst hp0
    have e2 : two8 (loR 0 q) (hiR 0 q) = z8 := by
      obtain ⟨h1, h2⟩ := mul64_eq isW0 hqw
      unfold two8; rw [h1, h2, Int.zero_mul]; rfl
    have E2 := Lib.hid e2
    rw [e2] at HS
    clear e2
    have hA := HI.A
    have d0 := (hA).cell 0; have d1 := (hA).cell 1; have d2 := (hA).cell 2; have d3 := (hA).cell 3; have d4 := (hA).cell 4; have d5 := (hA).cell 5; have d6 := (hA).cell 6; have d7 := (hA).cell 7; have df := (hA).free
    simp only [List.getElem?_cons_zero, List.getElem?_cons_succ] at d0 d1 d2 d3 d4 d5 d6 d7
    simp only [one8] at d0 d1 d2 d3 d4 d5 d6 d7
    clear hA
    refine wp_loop_rounds 9 ?_
    rw [rounds_succ]; go_wp2
    rw [rounds_succ]; go_wp2
    rw [rounds_succ]; go_wp2
    rw [rounds_succ]; go_wp2
    rw [rounds_succ]; go_wp2
    rw [rounds_succ]; go_wp2
    rw [rounds_succ]; go_wp2
    rw [rounds_succ]; go_wp2
    clear d0 d1 d2 d3 d4 d5 d6 d7 df
    have hC := HI.C; have hX := HI.X; have hY := HI.Y
    have c0 := (hC).cell 0; have c1 := (hC).cell 1; have c2 := (hC).cell 2; have c3 := (hC).cell 3; have c4 := (hC).cell 4; have c5 := (hC).cell 5; have c6 := (hC).cell 6; have c7 := (hC).cell 7; have cf := (hC).free
    simp only [List.getElem?_cons_zero, List.getElem?_cons_succ] at c0 c1 c2 c3 c4 c5 c6 c7
    have a0 := (hX).cell 0; have a1 := (hX).cell 1; have a2 := (hX).cell 2; have a3 := (hX).cell 3; have a4 := (hX).cell 4; have a5 := (hX).cell 5; have a6 := (hX).cell 6; have a7 := (hX).cell 7; have af := (hX).free
    simp only [List.getElem?_cons_zero, List.getElem?_cons_succ] at a0 a1 a2 a3 a4 a5 a6 a7
    have b0 := (hY).cell 0; have b1 := (hY).cell 1; have b2 := (hY).cell 2; have b3 := (hY).cell 3; have b4 := (hY).cell 4; have b5 := (hY).cell 5; have b6 := (hY).cell 6; have b7 := (hY).cell 7; have bf := (hY).free
    simp only [List.getElem?_cons_zero, List.getElem?_cons_succ] at b0 b1 b2 b3 b4 b5 b6 b7
    clear hC hX hY
    have hl : (z8).ok := z8_ok
    have j0 := HI.X.lt; have j1 := HI.Y.lt; have j2 := HI.C.lt
    rw [rounds_succ]; go_wp2
    refine wp_region_ph [(9, .free [])] (by kernel_rfl) (by kernel_rfl) ?_
    refine Ph.belowd ?_
    simp only [List.drop_succ_cons, List.drop_zero, List.take_succ_cons, List.take_zero, Nat.reduceSub, Nat.sub_zero]
    iterate 3 (refine SeqO.val (v := ?_) (by rfl) (by rfl) (fun w1 hS => ?_) ?_; rotate_left; (· obtain ⟨hc, hcf⟩ := bcell hS; go_simp; try with_reducible rfl); simp only [Act.put, List.setIfInBounds_toArray, List.set_cons_zero, List.set_cons_succ])
    refine SeqO.callv (by rfl) (by rfl) (by rfl) cf94 (by simp [Act.eval]) (fun w1 hS => negC x w1) ?_
    simp only [Act.put, List.setIfInBounds_toArray, List.set_cons_zero, List.set_cons_succ]
    iterate 2 (refine SeqO.val (v := ?_) (by rfl) (by rfl) (fun w1 hS => ?_) ?_; rotate_left; (· obtain ⟨hc, hcf⟩ := bcell hS; go_simp; try with_reducible rfl); simp only [Act.put, List.setIfInBounds_toArray, List.set_cons_zero, List.set_cons_succ])
    refine SeqO.callv (by rfl) (by rfl) (by rfl) cf94 (by simp [Act.eval]) (fun w1 hS => negC y w1) ?_
    simp only [Act.put, List.setIfInBounds_toArray, List.set_cons_zero, List.set_cons_succ]
    iterate 1 (refine SeqO.val (v := ?_) (by rfl) (by rfl) (fun w1 hS => ?_) ?_; rotate_left; (· obtain ⟨hc, hcf⟩ := bcell hS; go_simp; try with_reducible rfl); simp only [Act.put, List.setIfInBounds_toArray, List.set_cons_zero, List.set_cons_succ])
    refine SeqO.callv (by rfl) (by rfl) (by rfl) cf93 (by simp [Act.eval]; cases topB x.h <;> cases topB y.h <;> rfl) (fun w1 hS => signedC (z8) hl (topB x.h != topB y.h) HS.out w1) ?_
    simp only [Act.put, List.setIfInBounds_toArray, List.set_cons_zero, List.set_cons_succ]
    refine SeqO.nil0 fun w3 hS3 => ?_
    refine Ph.last ?_
    simp only [List.drop_succ_cons, List.drop_zero, List.take_succ_cons, List.take_zero, Nat.reduceSub, Nat.sub_zero]
    clear c0 c1 c2 c3 c4 c5 c6 c7 cf
    clear a0 a1 a2 a3 a4 a5 a6 a7 af
    clear b0 b1 b2 b3 b4 b5 b6 b7 bf
    have HI3 := HI.step hS3
    have hR := HI3.R; have hO := HI3.O
    have r0 := (hR).cell 0; have r1 := (hR).cell 1; have r2 := (hR).cell 2; have r3 := (hR).cell 3; have r4 := (hR).cell 4; have r5 := (hR).cell 5; have r6 := (hR).cell 6; have r7 := (hR).cell 7; have rf := (hR).free
    simp only [List.getElem?_cons_zero, List.getElem?_cons_succ] at r0 r1 r2 r3 r4 r5 r6 r7
    have o0 := hO.cell 0; have of := hO.free 0
    simp only [List.getElem?_cons_zero] at o0
    have hWW := HI3.W
    clear hR hO HI HI3 hS3
    go_wp2
    refine leaves_cons (f := 89) (args := #[.pointer (some ⟨w.heap.size + 1 + 1, 0, none⟩), .pointer (some ⟨w.heap.size + 1 + 1 + 1, 0, none⟩)]) (by simp) (by simp [go_sem]) ?_
    refine (mulcC _ _ _).mono ?_
    rintro e u' w'' ⟨rfl, rfl, rfl⟩
    simp [Leaves, settle, results, Try.results72, go_sem, *]
    refine ⟨by rw [E2.out]; exact ⟨rfl, rfl, rfl, rfl, rfl, rfl, rfl, rfl⟩, (((((((((hWW).setCell (by first | omega | (simp; done) | (simp; omega)) _).setCell (by first | omega | (simp; done) | (simp; omega)) _).setCell (by first | omega | (simp; done) | (simp; omega)) _).setCell (by first | omega | (simp; done) | (simp; omega)) _).setCell (by first | omega | (simp; done) | (simp; omega)) _).setCell (by first | omega | (simp; done) | (simp; omega)) _).setCell (by first | omega | (simp; done) | (simp; omega)) _).setCell (by first | omega | (simp; done) | (simp; omega)) _).setCell (by first | omega | (simp; done) | (simp; omega)) _⟩
  · have b0 : (p == 0) = false := by simpa using hp0
    clear hp0
    have hHL := hilo_is hpw hqw
    have hH := hHL.1; have hLo := hHL.2
    have HM := mul64B p q
    have HM0 := mul64Z p hpw
    generalize hEH : hiR p q = H at *
    generalize hEL : loR p q = Lo at *
    have EH := Lib.hid hEH; have EL := Lib.hid hEL; clear hEH hEL
    have z1 := add64_l hLo; have z2 := add64_r hLo; have z3 := add64_l hH; have z4 := add64_r hH; have z5 := add64_l isW0
    have z6 : IntKind.u64.wrap H = H := wr_id hH.1 hH.2
    have hA := HI.A
    have d0 := hA.cell 0
    simp only [List.getElem?_cons_zero, one8] at d0
    clear hA
    refine wp_loop_rounds 9 ?_
    rw [rounds_succ]; go_wp2
    clear d0
    refine wp_loop_rounds 9 ?_
    rw [rounds_succ]
    have hA := HI.A; have hB := HI.B
    have e0 := hA.cell 0; have f0 := hB.cell 0
    simp only [List.getElem?_cons_zero, List.getElem?_cons_succ, one8] at e0 f0
    have j0 := HI.A.lt; have j1 := HI.B.lt; have j2 := HI.C.lt
    clear hA hB
    go_wp2
    refine wp_region_ph [(12, .free [])] (by kernel_rfl) (by kernel_rfl) ?_
    refine Ph.belowd ?_
    simp only [List.drop_succ_cons, List.drop_zero, List.take_succ_cons, List.take_zero, Nat.reduceSub, Nat.sub_zero]
    iterate 6 (refine SeqO.val (v := ?_) (by rfl) (by rfl) (fun w1 hS => ?_) ?_; rotate_left; (· obtain ⟨hc, hcf⟩ := bcell hS; go_simp; try with_reducible rfl); simp only [Act.put, List.setIfInBounds_toArray, List.set_cons_zero, List.set_cons_succ])
    refine SeqO.callv (by rfl) (by rfl) (by rfl) cf91 (by simp [Act.eval]) (fun w1 hS => HM w1) ?_
    simp only [Act.put, List.setIfInBounds_toArray, List.set_cons_zero, List.set_cons_succ]
    iterate 5 (refine SeqO.val (v := ?_) (by rfl) (by rfl) (fun w1 hS => ?_) ?_; rotate_left; (· obtain ⟨hc, hcf⟩ := bcell hS; go_simp; try with_reducible rfl); simp only [Act.put, List.setIfInBounds_toArray, List.set_cons_zero, List.set_cons_succ])
    refine SeqO.nil0 fun w3 hS3 => ?_
    refine Ph.last ?_
    simp only [List.drop_succ_cons, List.drop_zero, List.take_succ_cons, List.take_zero, Nat.reduceSub, Nat.sub_zero]
    clear e0 f0 j0 j1 j2
    have HI3 := HI.step hS3
    have hC := HI3.C
    have c0 := hC.cell 0; have cf := hC.free 0
    simp only [List.getElem?_cons_zero, List.getElem?_cons_succ, z8, one8, two8] at c0
    clear hC HI hS3
    have HI : MulI w w.heap.size g6 g7 g8 x y (one8 p) (one8 q) (one8 Lo) (w3.setCell ⟨g8, 0, none⟩ (.int .u64 Lo)) := HI3.put HD (Nat.le_refl _) rfl
    clear HI3
    go_wp2
    clear c0 cf
    revert HI
    generalize w3.setCell ⟨g8, 0, none⟩ (.int .u64 Lo) = w4
    intro HI
    rw [rounds_succ]
    have hA := HI.A; have hB := HI.B
    have e0 := hA.cell 0; have f0 := hB.cell 1
    simp only [List.getElem?_cons_zero, List.getElem?_cons_succ, one8] at e0 f0
    have j0 := HI.A.lt; have j1 := HI.B.lt; have j2 := HI.C.lt
    clear hA hB
    go_wp2
    refine wp_region_ph [(12, .free [])] (by kernel_rfl) (by kernel_rfl) ?_
    refine Ph.belowd ?_
    simp only [List.drop_succ_cons, List.drop_zero, List.take_succ_cons, List.take_zero, Nat.reduceSub, Nat.sub_zero]
    iterate 6 (refine SeqO.val (v := ?_) (by rfl) (by rfl) (fun w1 hS => ?_) ?_; rotate_left; (· obtain ⟨hc, hcf⟩ := bcell hS; go_simp; try with_reducible rfl); simp only [Act.put, List.setIfInBounds_toArray, List.set_cons_zero, List.set_cons_succ])
    refine SeqO.callv (by rfl) (by rfl) (by rfl) cf91 (by simp [Act.eval]) (fun w1 hS => HM0 w1) ?_
    simp only [Act.put, List.setIfInBounds_toArray, List.set_cons_zero, List.set_cons_succ]
    iterate 5 (refine SeqO.val (v := ?_) (by rfl) (by rfl) (fun w1 hS => ?_) ?_; rotate_left; (· obtain ⟨hc, hcf⟩ := bcell hS; go_simp; try with_reducible rfl); simp only [Act.put, List.setIfInBounds_toArray, List.set_cons_zero, List.set_cons_succ])
    refine SeqO.nil0 fun w3 hS3 => ?_
    refine Ph.last ?_
    simp only [List.drop_succ_cons, List.drop_zero, List.take_succ_cons, List.take_zero, Nat.reduceSub, Nat.sub_zero]
    clear e0 f0 j0 j1 j2
    have HI3 := HI.step hS3
    have hC := HI3.C
    have c0 := hC.cell 1; have cf := hC.free 1
    simp only [List.getElem?_cons_zero, List.getElem?_cons_succ, z8, one8, two8] at c0
    clear hC HI hS3
    have HI : MulI w w.heap.size g6 g7 g8 x y (one8 p) (one8 q) (two8 Lo H) (w3.setCell ⟨g8, 1, none⟩ (.int .u64 H)) := HI3.put HD (Nat.le_refl _) rfl
    clear HI3
    go_wp2
    clear c0 cf
    revert HI
    generalize w3.setCell ⟨g8, 1, none⟩ (.int .u64 H) = w4
    intro HI
    rw [rounds_succ]
    have hA := HI.A; have hB := HI.B
    have e0 := hA.cell 0; have f0 := hB.cell 2
    simp only [List.getElem?_cons_zero, List.getElem?_cons_succ, one8] at e0 f0
    have j0 := HI.A.lt; have j1 := HI.B.lt; have j2 := HI.C.lt
    clear hA hB
    go_wp2
    refine wp_region_ph [(12, .free [])] (by kernel_rfl) (by kernel_rfl) ?_
    refine Ph.belowd ?_
    simp only [List.drop_succ_cons, List.drop_zero, List.take_succ_cons, List.take_zero, Nat.reduceSub, Nat.sub_zero]
    iterate 6 (refine SeqO.val (v := ?_) (by rfl) (by rfl) (fun w1 hS => ?_) ?_; rotate_left; (· obtain ⟨hc, hcf⟩ := bcell hS; go_simp; try with_reducible rfl); simp only [Act.put, List.setIfInBounds_toArray, List.set_cons_zero, List.set_cons_succ])
    refine SeqO.callv (by rfl) (by rfl) (by rfl) cf91 (by simp [Act.eval]) (fun w1 hS => HM0 w1) ?_
    simp only [Act.put, List.setIfInBounds_toArray, List.set_cons_zero, List.set_cons_succ]
    iterate 5 (refine SeqO.val (v := ?_) (by rfl) (by rfl) (fun w1 hS => ?_) ?_; rotate_left; (· obtain ⟨hc, hcf⟩ := bcell hS; go_simp; try with_reducible rfl); simp only [Act.put, List.setIfInBounds_toArray, List.set_cons_zero, List.set_cons_succ])
    refine SeqO.nil0 fun w3 hS3 => ?_
    refine Ph.last ?_
    simp only [List.drop_succ_cons, List.drop_zero, List.take_succ_cons, List.take_zero, Nat.reduceSub, Nat.sub_zero]
    clear e0 f0 j0 j1 j2
    have HI3 := HI.step hS3
    have hC := HI3.C
    have c0 := hC.cell 2; have cf := hC.free 2
    simp only [List.getElem?_cons_zero, List.getElem?_cons_succ, z8, one8, two8] at c0
    clear hC HI hS3
    have HI : MulI w w.heap.size g6 g7 g8 x y (one8 p) (one8 q) (two8 Lo H) (w3.setCell ⟨g8, 2, none⟩ (.int .u64 0)) := HI3.put HD (Nat.le_refl _) rfl
    clear HI3
    go_wp2
    clear c0 cf
    revert HI
    generalize w3.setCell ⟨g8, 2, none⟩ (.int .u64 0) = w4
    intro HI
    rw [rounds_succ]
    have hA := HI.A; have hB := HI.B
    have e0 := hA.cell 0; have f0 := hB.cell 3
    simp only [List.getElem?_cons_zero, List.getElem?_cons_succ, one8] at e0 f0
    have j0 := HI.A.lt; have j1 := HI.B.lt; have j2 := HI.C.lt
    clear hA hB
    go_wp2
    refine wp_region_ph [(12, .free [])] (by kernel_rfl) (by kernel_rfl) ?_
    refine Ph.belowd ?_
    simp only [List.drop_succ_cons, List.drop_zero, List.take_succ_cons, List.take_zero, Nat.reduceSub, Nat.sub_zero]
    iterate 6 (refine SeqO.val (v := ?_) (by rfl) (by rfl) (fun w1 hS => ?_) ?_; rotate_left; (· obtain ⟨hc, hcf⟩ := bcell hS; go_simp; try with_reducible rfl); simp only [Act.put, List.setIfInBounds_toArray, List.set_cons_zero, List.set_cons_succ])
    refine SeqO.callv (by rfl) (by rfl) (by rfl) cf91 (by simp [Act.eval]) (fun w1 hS => HM0 w1) ?_
    simp only [Act.put, List.setIfInBounds_toArray, List.set_cons_zero, List.set_cons_succ]
    iterate 5 (refine SeqO.val (v := ?_) (by rfl) (by rfl) (fun w1 hS => ?_) ?_; rotate_left; (· obtain ⟨hc, hcf⟩ := bcell hS; go_simp; try with_reducible rfl); simp only [Act.put, List.setIfInBounds_toArray, List.set_cons_zero, List.set_cons_succ])
    refine SeqO.nil0 fun w3 hS3 => ?_
    refine Ph.last ?_
    simp only [List.drop_succ_cons, List.drop_zero, List.take_succ_cons, List.take_zero, Nat.reduceSub, Nat.sub_zero]
    clear e0 f0 j0 j1 j2
    have HI3 := HI.step hS3
    have hC := HI3.C
    have c0 := hC.cell 3; have cf := hC.free 3
    simp only [List.getElem?_cons_zero, List.getElem?_cons_succ, z8, one8, two8] at c0
    clear hC HI hS3
    have HI : MulI w w.heap.size g6 g7 g8 x y (one8 p) (one8 q) (two8 Lo H) (w3.setCell ⟨g8, 3, none⟩ (.int .u64 0)) := HI3.put HD (Nat.le_refl _) rfl
    clear HI3
    go_wp2
    clear c0 cf
    revert HI
    generalize w3.setCell ⟨g8, 3, none⟩ (.int .u64 0) = w4
    intro HI
    rw [rounds_succ]
    have hA := HI.A; have hB := HI.B
    have e0 := hA.cell 0; have f0 := hB.cell 4
    simp only [List.getElem?_cons_zero, List.getElem?_cons_succ, one8] at e0 f0
    have j0 := HI.A.lt; have j1 := HI.B.lt; have j2 := HI.C.lt
    clear hA hB
    go_wp2
    refine wp_region_ph [(12, .free [])] (by kernel_rfl) (by kernel_rfl) ?_
    refine Ph.belowd ?_
    simp only [List.drop_succ_cons, List.drop_zero, List.take_succ_cons, List.take_zero, Nat.reduceSub, Nat.sub_zero]
    iterate 6 (refine SeqO.val (v := ?_) (by rfl) (by rfl) (fun w1 hS => ?_) ?_; rotate_left; (· obtain ⟨hc, hcf⟩ := bcell hS; go_simp; try with_reducible rfl); simp only [Act.put, List.setIfInBounds_toArray, List.set_cons_zero, List.set_cons_succ])
    refine SeqO.callv (by rfl) (by rfl) (by rfl) cf91 (by simp [Act.eval]) (fun w1 hS => HM0 w1) ?_
    simp only [Act.put, List.setIfInBounds_toArray, List.set_cons_zero, List.set_cons_succ]
    iterate 5 (refine SeqO.val (v := ?_) (by rfl) (by rfl) (fun w1 hS => ?_) ?_; rotate_left; (· obtain ⟨hc, hcf⟩ := bcell hS; go_simp; try with_reducible rfl); simp only [Act.put, List.setIfInBounds_toArray, List.set_cons_zero, List.set_cons_succ])
    refine SeqO.nil0 fun w3 hS3 => ?_
    refine Ph.last ?_
    simp only [List.drop_succ_cons, List.drop_zero, List.take_succ_cons, List.take_zero, Nat.reduceSub, Nat.sub_zero]
    clear e0 f0 j0 j1 j2
    have HI3 := HI.step hS3
    have hC := HI3.C
    have c0 := hC.cell 4; have cf := hC.free 4
    simp only [List.getElem?_cons_zero, List.getElem?_cons_succ, z8, one8, two8] at c0
    clear hC HI hS3
    have HI : MulI w w.heap.size g6 g7 g8 x y (one8 p) (one8 q) (two8 Lo H) (w3.setCell ⟨g8, 4, none⟩ (.int .u64 0)) := HI3.put HD (Nat.le_refl _) rfl
    clear HI3
    go_wp2
    clear c0 cf
    revert HI
    generalize w3.setCell ⟨g8, 4, none⟩ (.int .u64 0) = w4
    intro HI
    rw [rounds_succ]
    have hA := HI.A; have hB := HI.B
    have e0 := hA.cell 0; have f0 := hB.cell 5
    simp only [List.getElem?_cons_zero, List.getElem?_cons_succ, one8] at e0 f0
    have j0 := HI.A.lt; have j1 := HI.B.lt; have j2 := HI.C.lt
    clear hA hB
    go_wp2
    refine wp_region_ph [(12, .free [])] (by kernel_rfl) (by kernel_rfl) ?_
    refine Ph.belowd ?_
    simp only [List.drop_succ_cons, List.drop_zero, List.take_succ_cons, List.take_zero, Nat.reduceSub, Nat.sub_zero]
    iterate 6 (refine SeqO.val (v := ?_) (by rfl) (by rfl) (fun w1 hS => ?_) ?_; rotate_left; (· obtain ⟨hc, hcf⟩ := bcell hS; go_simp; try with_reducible rfl); simp only [Act.put, List.setIfInBounds_toArray, List.set_cons_zero, List.set_cons_succ])
    refine SeqO.callv (by rfl) (by rfl) (by rfl) cf91 (by simp [Act.eval]) (fun w1 hS => HM0 w1) ?_
    simp only [Act.put, List.setIfInBounds_toArray, List.set_cons_zero, List.set_cons_succ]
    iterate 5 (refine SeqO.val (v := ?_) (by rfl) (by rfl) (fun w1 hS => ?_) ?_; rotate_left; (· obtain ⟨hc, hcf⟩ := bcell hS; go_simp; try with_reducible rfl); simp only [Act.put, List.setIfInBounds_toArray, List.set_cons_zero, List.set_cons_succ])
    refine SeqO.nil0 fun w3 hS3 => ?_
    refine Ph.last ?_
    simp only [List.drop_succ_cons, List.drop_zero, List.take_succ_cons, List.take_zero, Nat.reduceSub, Nat.sub_zero]
    clear e0 f0 j0 j1 j2
    have HI3 := HI.step hS3
    have hC := HI3.C
    have c0 := hC.cell 5; have cf := hC.free 5
    simp only [List.getElem?_cons_zero, List.getElem?_cons_succ, z8, one8, two8] at c0
    clear hC HI hS3
    have HI : MulI w w.heap.size g6 g7 g8 x y (one8 p) (one8 q) (two8 Lo H) (w3.setCell ⟨g8, 5, none⟩ (.int .u64 0)) := HI3.put HD (Nat.le_refl _) rfl
    clear HI3
    go_wp2
    clear c0 cf
    revert HI
    generalize w3.setCell ⟨g8, 5, none⟩ (.int .u64 0) = w4
    intro HI
    rw [rounds_succ]
    have hA := HI.A; have hB := HI.B
    have e0 := hA.cell 0; have f0 := hB.cell 6
    simp only [List.getElem?_cons_zero, List.getElem?_cons_succ, one8] at e0 f0
    have j0 := HI.A.lt; have j1 := HI.B.lt; have j2 := HI.C.lt
    clear hA hB
    go_wp2
    refine wp_region_ph [(12, .free [])] (by kernel_rfl) (by kernel_rfl) ?_
    refine Ph.belowd ?_
    simp only [List.drop_succ_cons, List.drop_zero, List.take_succ_cons, List.take_zero, Nat.reduceSub, Nat.sub_zero]
    iterate 6 (refine SeqO.val (v := ?_) (by rfl) (by rfl) (fun w1 hS => ?_) ?_; rotate_left; (· obtain ⟨hc, hcf⟩ := bcell hS; go_simp; try with_reducible rfl); simp only [Act.put, List.setIfInBounds_toArray, List.set_cons_zero, List.set_cons_succ])
    refine SeqO.callv (by rfl) (by rfl) (by rfl) cf91 (by simp [Act.eval]) (fun w1 hS => HM0 w1) ?_
    simp only [Act.put, List.setIfInBounds_toArray, List.set_cons_zero, List.set_cons_succ]
    iterate 5 (refine SeqO.val (v := ?_) (by rfl) (by rfl) (fun w1 hS => ?_) ?_; rotate_left; (· obtain ⟨hc, hcf⟩ := bcell hS; go_simp; try with_reducible rfl); simp only [Act.put, List.setIfInBounds_toArray, List.set_cons_zero, List.set_cons_succ])
    refine SeqO.nil0 fun w3 hS3 => ?_
    refine Ph.last ?_
    simp only [List.drop_succ_cons, List.drop_zero, List.take_succ_cons, List.take_zero, Nat.reduceSub, Nat.sub_zero]
    clear e0 f0 j0 j1 j2
    have HI3 := HI.step hS3
    have hC := HI3.C
    have c0 := hC.cell 6; have cf := hC.free 6
    simp only [List.getElem?_cons_zero, List.getElem?_cons_succ, z8, one8, two8] at c0
    clear hC HI hS3
    have HI : MulI w w.heap.size g6 g7 g8 x y (one8 p) (one8 q) (two8 Lo H) (w3.setCell ⟨g8, 6, none⟩ (.int .u64 0)) := HI3.put HD (Nat.le_refl _) rfl
    clear HI3
    go_wp2
    clear c0 cf
    revert HI
    generalize w3.setCell ⟨g8, 6, none⟩ (.int .u64 0) = w4
    intro HI
    rw [rounds_succ]
    have hA := HI.A; have hB := HI.B
    have e0 := hA.cell 0; have f0 := hB.cell 7
    simp only [List.getElem?_cons_zero, List.getElem?_cons_succ, one8] at e0 f0
    have j0 := HI.A.lt; have j1 := HI.B.lt; have j2 := HI.C.lt
    clear hA hB
    go_wp2
    refine wp_region_ph [(12, .free [])] (by kernel_rfl) (by kernel_rfl) ?_
    refine Ph.belowd ?_
    simp only [List.drop_succ_cons, List.drop_zero, List.take_succ_cons, List.take_zero, Nat.reduceSub, Nat.sub_zero]
    iterate 6 (refine SeqO.val (v := ?_) (by rfl) (by rfl) (fun w1 hS => ?_) ?_; rotate_left; (· obtain ⟨hc, hcf⟩ := bcell hS; go_simp; try with_reducible rfl); simp only [Act.put, List.setIfInBounds_toArray, List.set_cons_zero, List.set_cons_succ])
    refine SeqO.callv (by rfl) (by rfl) (by rfl) cf91 (by simp [Act.eval]) (fun w1 hS => HM0 w1) ?_
    simp only [Act.put, List.setIfInBounds_toArray, List.set_cons_zero, List.set_cons_succ]
    iterate 5 (refine SeqO.val (v := ?_) (by rfl) (by rfl) (fun w1 hS => ?_) ?_; rotate_left; (· obtain ⟨hc, hcf⟩ := bcell hS; go_simp; try with_reducible rfl); simp only [Act.put, List.setIfInBounds_toArray, List.set_cons_zero, List.set_cons_succ])
    refine SeqO.nil0 fun w3 hS3 => ?_
    refine Ph.last ?_
    simp only [List.drop_succ_cons, List.drop_zero, List.take_succ_cons, List.take_zero, Nat.reduceSub, Nat.sub_zero]
    clear e0 f0 j0 j1 j2
    have HI3 := HI.step hS3
    have hC := HI3.C
    have c0 := hC.cell 7; have cf := hC.free 7
    simp only [List.getElem?_cons_zero, List.getElem?_cons_succ, z8, one8, two8] at c0
    clear hC HI hS3
    have HI : MulI w w.heap.size g6 g7 g8 x y (one8 p) (one8 q) (two8 Lo H) (w3.setCell ⟨g8, 7, none⟩ (.int .u64 0)) := HI3.put HD (Nat.le_refl _) rfl
    clear HI3
    go_wp2
    clear c0 cf
    revert HI
    generalize w3.setCell ⟨g8, 7, none⟩ (.int .u64 0) = w4
    intro HI
    rw [rounds_succ]; go_wp2
    have hA := HI.A
    have d0 := (hA).cell 0; have d1 := (hA).cell 1; have d2 := (hA).cell 2; have d3 := (hA).cell 3; have d4 := (hA).cell 4; have d5 := (hA).cell 5; have d6 := (hA).cell 6; have d7 := (hA).cell 7; have df := (hA).free
    simp only [List.getElem?_cons_zero, List.getElem?_cons_succ] at d0 d1 d2 d3 d4 d5 d6 d7
    simp only [one8] at d0 d1 d2 d3 d4 d5 d6 d7
    clear hA
    rw [rounds_succ]; go_wp2
    rw [rounds_succ]; go_wp2
    rw [rounds_succ]; go_wp2
    rw [rounds_succ]; go_wp2
    rw [rounds_succ]; go_wp2
    rw [rounds_succ]; go_wp2
    rw [rounds_succ]; go_wp2
    clear d0 d1 d2 d3 d4 d5 d6 d7 df
    have hC := HI.C; have hX := HI.X; have hY := HI.Y
    have c0 := (hC).cell 0; have c1 := (hC).cell 1; have c2 := (hC).cell 2; have c3 := (hC).cell 3; have c4 := (hC).cell 4; have c5 := (hC).cell 5; have c6 := (hC).cell 6; have c7 := (hC).cell 7; have cf := (hC).free
    simp only [List.getElem?_cons_zero, List.getElem?_cons_succ] at c0 c1 c2 c3 c4 c5 c6 c7
    have a0 := (hX).cell 0; have a1 := (hX).cell 1; have a2 := (hX).cell 2; have a3 := (hX).cell 3; have a4 := (hX).cell 4; have a5 := (hX).cell 5; have a6 := (hX).cell 6; have a7 := (hX).cell 7; have af := (hX).free
    simp only [List.getElem?_cons_zero, List.getElem?_cons_succ] at a0 a1 a2 a3 a4 a5 a6 a7
    have b0 := (hY).cell 0; have b1 := (hY).cell 1; have b2 := (hY).cell 2; have b3 := (hY).cell 3; have b4 := (hY).cell 4; have b5 := (hY).cell 5; have b6 := (hY).cell 6; have b7 := (hY).cell 7; have bf := (hY).free
    simp only [List.getElem?_cons_zero, List.getElem?_cons_succ] at b0 b1 b2 b3 b4 b5 b6 b7
    clear hC hX hY
    have hl : (two8 Lo H).ok := ⟨hLo, hH, isW0, isW0, isW0, isW0, isW0, isW0⟩
    have j0 := HI.X.lt; have j1 := HI.Y.lt; have j2 := HI.C.lt
    rw [rounds_succ]; go_wp2
    refine wp_region_ph [(9, .free [])] (by kernel_rfl) (by kernel_rfl) ?_
    refine Ph.belowd ?_
    simp only [List.drop_succ_cons, List.drop_zero, List.take_succ_cons, List.take_zero, Nat.reduceSub, Nat.sub_zero]
    iterate 3 (refine SeqO.val (v := ?_) (by rfl) (by rfl) (fun w1 hS => ?_) ?_; rotate_left; (· obtain ⟨hc, hcf⟩ := bcell hS; go_simp; try with_reducible rfl); simp only [Act.put, List.setIfInBounds_toArray, List.set_cons_zero, List.set_cons_succ])
    refine SeqO.callv (by rfl) (by rfl) (by rfl) cf94 (by simp [Act.eval]) (fun w1 hS => negC x w1) ?_
    simp only [Act.put, List.setIfInBounds_toArray, List.set_cons_zero, List.set_cons_succ]
    iterate 2 (refine SeqO.val (v := ?_) (by rfl) (by rfl) (fun w1 hS => ?_) ?_; rotate_left; (· obtain ⟨hc, hcf⟩ := bcell hS; go_simp; try with_reducible rfl); simp only [Act.put, List.setIfInBounds_toArray, List.set_cons_zero, List.set_cons_succ])
    refine SeqO.callv (by rfl) (by rfl) (by rfl) cf94 (by simp [Act.eval]) (fun w1 hS => negC y w1) ?_
    simp only [Act.put, List.setIfInBounds_toArray, List.set_cons_zero, List.set_cons_succ]
    iterate 1 (refine SeqO.val (v := ?_) (by rfl) (by rfl) (fun w1 hS => ?_) ?_; rotate_left; (· obtain ⟨hc, hcf⟩ := bcell hS; go_simp; try with_reducible rfl); simp only [Act.put, List.setIfInBounds_toArray, List.set_cons_zero, List.set_cons_succ])
    refine SeqO.callv (by rfl) (by rfl) (by rfl) cf93 (by simp [Act.eval]; cases topB x.h <;> cases topB y.h <;> rfl) (fun w1 hS => signedC (two8 Lo H) hl (topB x.h != topB y.h) HS.out w1) ?_
    simp only [Act.put, List.setIfInBounds_toArray, List.set_cons_zero, List.set_cons_succ]
    refine SeqO.nil0 fun w3 hS3 => ?_
    refine Ph.last ?_
    simp only [List.drop_succ_cons, List.drop_zero, List.take_succ_cons, List.take_zero, Nat.reduceSub, Nat.sub_zero]
    clear c0 c1 c2 c3 c4 c5 c6 c7 cf
    clear a0 a1 a2 a3 a4 a5 a6 a7 af
    clear b0 b1 b2 b3 b4 b5 b6 b7 bf
    have HI3 := HI.step hS3
    have hR := HI3.R; have hO := HI3.O
    have r0 := (hR).cell 0; have r1 := (hR).cell 1; have r2 := (hR).cell 2; have r3 := (hR).cell 3; have r4 := (hR).cell 4; have r5 := (hR).cell 5; have r6 := (hR).cell 6; have r7 := (hR).cell 7; have rf := (hR).free
    simp only [List.getElem?_cons_zero, List.getElem?_cons_succ] at r0 r1 r2 r3 r4 r5 r6 r7
    have o0 := hO.cell 0; have of := hO.free 0
    simp only [List.getElem?_cons_zero] at o0
    have hWW := HI3.W
    clear hR hO HI HI3 hS3
    go_wp2
    refine leaves_cons (f := 89) (args := #[.pointer (some ⟨w.heap.size + 1 + 1, 0, none⟩), .pointer (some ⟨w.heap.size + 1 + 1 + 1, 0, none⟩)]) (by simp) (by simp [go_sem]) ?_
    refine (mulcC _ _ _).mono ?_
    rintro e u' w'' ⟨rfl, rfl, rfl⟩
    simp [Leaves, settle, results, Try.results72, go_sem, *]
    refine ⟨by rw [EH.out, EL.out]; exact ⟨rfl, rfl, rfl, rfl, rfl, rfl, rfl, rfl⟩, (((((((((hWW).setCell (by first | omega | (simp; done) | (simp; omega)) _).setCell (by first | omega | (simp; done) | (simp; omega)) _).setCell (by first | omega | (simp; done) | (simp; omega)) _).setCell (by first | omega | (simp; done) | (simp; omega)) _).setCell (by first | omega | (simp; done) | (simp; omega)) _).setCell (by first | omega | (simp; done) | (simp; omega)) _).setCell (by first | omega | (simp; done) | (simp; omega)) _).setCell (by first | omega | (simp; done) | (simp; omega)) _).setCell (by first | omega | (simp; done) | (simp; omega)) _⟩
end Go.Proofs.Ytbcjnckejkjfeaa
