/- Integers of 512 bits as eight words: walks, third part. No condition. -/
import Derived.Test.YtbcjnckejkjfeaaWid2
namespace Go.Proofs.Ytbcjnckejkjfeaa
set_option linter.unusedVariables false
set_option linter.unusedSimpArgs false
open Go.RowKit Go.NP
def nt (a : Int) : Int := bits .xor .u64 IntKind.u64.max a
theorem nt_eq {a : Int} (h : isW a) : nt a = 18446744073709551615 - a := by
  obtain ⟨h0, h1⟩ := h
  have hm : IntKind.u64.max = 18446744073709551615 := by decide
  unfold nt
  rw [hm, u64_xor _ _ (by omega) (by omega) h0 h1]
  obtain ⟨n, rfl⟩ := Int.eq_ofNat_of_zero_le h0
  have hn : n < 2 ^ 64 := by omega
  have hb : ((BitVec.allOnes 64) ^^^ (BitVec.ofNat 64 n)).toNat = (~~~ (BitVec.ofNat 64 n)).toNat := by rw [BitVec.allOnes_xor]
  rw [BitVec.toNat_xor, BitVec.toNat_not, BitVec.toNat_allOnes, BitVec.toNat_ofNat, Nat.mod_eq_of_lt hn] at hb
  have e1 : (18446744073709551615 : Int).toNat = 2 ^ 64 - 1 := by decide
  rw [e1, Int.toNat_natCast, hb]
  omega
theorem nt_is {a : Int} (h : isW a) : isW (nt a) := by rw [nt_eq h]; unfold isW at *; omega
def not8 (x : L8) : L8 := ⟨nt x.a, nt x.b, nt x.c, nt x.d, nt x.e, nt x.f, nt x.g, nt x.h⟩
theorem not8_ok {x : L8} (h : x.ok) : (not8 x).ok := ⟨nt_is h.a, nt_is h.b, nt_is h.c, nt_is h.d, nt_is h.e, nt_is h.f, nt_is h.g, nt_is h.h⟩
def z8 : L8 := ⟨0, 0, 0, 0, 0, 0, 0, 0⟩
theorem isW0 : isW 0 := ⟨by decide, by decide⟩
theorem z8_ok : z8.ok := ⟨isW0, isW0, isW0, isW0, isW0, isW0, isW0, isW0⟩
theorem plus8_ok {x y : L8} {c : Int} : (plus8 x y c).ok := ⟨s64_is, s64_is, s64_is, s64_is, s64_is, s64_is, s64_is, s64_is⟩
def minus8 (x : L8) : L8 := plus8 (not8 x) z8 1
def size8 (x : L8) : L8 := if topB x.h = true then minus8 x else x
def lo (n : Int) : Int := IntKind.u64.wrap n
def sg (n : Int) : Int := IntKind.u64.wrap (n / 9223372036854775808)
def of8 (n : Int) : L8 := ⟨lo n, sg n, sg n, sg n, sg n, sg n, sg n, sg n⟩
set_option maxRecDepth 100000 in
set_option maxHeartbeats 2000000 in
theorem notC (x : L8) (w : World) : RetB Try.prog 104 #[.agg #[.int .u64 x.a, .int .u64 x.b, .int .u64 x.c, .int .u64 x.d, .int .u64 x.e, .int .u64 x.f, .int .u64 x.g, .int .u64 x.h]] w (.agg #[.int .u64 (not8 x).a, .int .u64 (not8 x).b, .int .u64 (not8 x).c, .int .u64 (not8 x).d, .int .u64 (not8 x).e, .int .u64 (not8 x).f, .int .u64 (not8 x).g, .int .u64 (not8 x).h]) := by
  unfold RetB
  go_enter Try.func104, Try.ntmps104
  go_wp2
  refine wp_loop_rounds 9 ?_
  rw [rounds_succ]; go_wp2
  rw [rounds_succ]; go_wp2
  rw [rounds_succ]; go_wp2
  rw [rounds_succ]; go_wp2
  rw [rounds_succ]; go_wp2
  rw [rounds_succ]; go_wp2
  rw [rounds_succ]; go_wp2
  rw [rounds_succ]; go_wp2
  rw [rounds_succ]; go_wp2
  exact bodyPost_ret (v := .agg #[.int .u64 (not8 x).a, .int .u64 (not8 x).b, .int .u64 (not8 x).c, .int .u64 (not8 x).d, .int .u64 (not8 x).e, .int .u64 (not8 x).f, .int .u64 (not8 x).g, .int .u64 (not8 x).h]) (by simp [results, Try.results104, go_sem]; exact ⟨rfl, rfl, rfl, rfl, rfl, rfl, rfl, rfl⟩) rfl ⟨rfl, ((Below.refl _ _).alloc (Nat.le_refl _) _).alloc (by simp) _⟩
set_option maxRecDepth 100000 in
set_option maxHeartbeats 2000000 in
theorem ofWC (x : Int) (w : World) : RetB Try.prog 73 #[.int .i64 x] w (.agg #[.int .u64 (of8 x).a, .int .u64 (of8 x).b, .int .u64 (of8 x).c, .int .u64 (of8 x).d, .int .u64 (of8 x).e, .int .u64 (of8 x).f, .int .u64 (of8 x).g, .int .u64 (of8 x).h]) := by
  unfold RetB
  go_enter Try.func73, Try.ntmps73
  go_wp2
  refine wp_loop_rounds 9 ?_
  rw [rounds_succ]; go_wp2
  rw [rounds_succ]; go_wp2
  rw [rounds_succ]; go_wp2
  rw [rounds_succ]; go_wp2
  rw [rounds_succ]; go_wp2
  rw [rounds_succ]; go_wp2
  rw [rounds_succ]; go_wp2
  rw [rounds_succ]; go_wp2
  rw [rounds_succ]; go_wp2
  exact bodyPost_ret (v := .agg #[.int .u64 (of8 x).a, .int .u64 (of8 x).b, .int .u64 (of8 x).c, .int .u64 (of8 x).d, .int .u64 (of8 x).e, .int .u64 (of8 x).f, .int .u64 (of8 x).g, .int .u64 (of8 x).h]) (by simp [results, Try.results73, go_sem]; exact ⟨rfl, rfl, rfl, rfl, rfl, rfl, rfl, rfl⟩) rfl ⟨rfl, ((Below.refl _ _).alloc (Nat.le_refl _) _).alloc (by simp) _⟩
set_option maxRecDepth 100000 in
set_option maxHeartbeats 2000000 in
theorem minusC (x : L8) (hx : x.ok) (w : World) : RetB Try.prog 101 #[.agg #[.int .u64 x.a, .int .u64 x.b, .int .u64 x.c, .int .u64 x.d, .int .u64 x.e, .int .u64 x.f, .int .u64 x.g, .int .u64 x.h]] w (.agg #[.int .u64 (minus8 x).a, .int .u64 (minus8 x).b, .int .u64 (minus8 x).c, .int .u64 (minus8 x).d, .int .u64 (minus8 x).e, .int .u64 (minus8 x).f, .int .u64 (minus8 x).g, .int .u64 (minus8 x).h]) := by
  unfold RetB
  go_enter Try.func101, Try.ntmps101
  go_wp2_with fail
  refine (notC x _).mono ?_
  rintro e w1 ⟨rfl, hS⟩
  have hW : Below w.heap.size w w1 := (((Below.refl _ _).alloc (Nat.le_refl _) _).alloc (by simp) _).trans (hS.mono (by simp; omega))
  have hR : Box w1 (w.heap.size + 1) _ _ := (Box.new (by simp)).step hS
  have HR := Lib.hid hR; clear hR
  go_wp2_with fail
  refine (plusC (not8 x) z8 1 (not8_ok hx) z8_ok ⟨by decide, by decide⟩ _).mono ?_
  rintro e w2 ⟨rfl, hS2⟩
  have hR2 := HR.out.step hS2
  have hz := HR.out.lt
  have z0 := (hR2).cell 0; have z1 := (hR2).cell 1; have z2 := (hR2).cell 2; have z3 := (hR2).cell 3; have z4 := (hR2).cell 4; have z5 := (hR2).cell 5; have z6 := (hR2).cell 6; have z7 := (hR2).cell 7; have zf := (hR2).free
  simp only [List.getElem?_cons_zero, List.getElem?_cons_succ] at z0 z1 z2 z3 z4 z5 z6 z7
  go_wp2
  exact bodyPost_ret (v := .agg #[.int .u64 (minus8 x).a, .int .u64 (minus8 x).b, .int .u64 (minus8 x).c, .int .u64 (minus8 x).d, .int .u64 (minus8 x).e, .int .u64 (minus8 x).f, .int .u64 (minus8 x).g, .int .u64 (minus8 x).h]) (by simp [results, Try.results101, go_sem, *]; exact ⟨rfl, rfl, rfl, rfl, rfl, rfl, rfl, rfl⟩) rfl ⟨rfl, ((((((((hW.trans (hS2.mono (by omega))).setCell (by first | omega | (simp; done) | (simp; omega)) _).setCell (by first | omega | (simp; done) | (simp; omega)) _).setCell (by first | omega | (simp; done) | (simp; omega)) _).setCell (by first | omega | (simp; done) | (simp; omega)) _).setCell (by first | omega | (simp; done) | (simp; omega)) _).setCell (by first | omega | (simp; done) | (simp; omega)) _).setCell (by first | omega | (simp; done) | (simp; omega)) _).setCell (by first | omega | (simp; done) | (simp; omega)) _⟩
set_option maxRecDepth 100000 in
set_option maxHeartbeats 2000000 in
theorem size8C (x : L8) (hx : x.ok) (w : World) : RetB Try.prog 90 #[.agg #[.int .u64 x.a, .int .u64 x.b, .int .u64 x.c, .int .u64 x.d, .int .u64 x.e, .int .u64 x.f, .int .u64 x.g, .int .u64 x.h]] w (.agg #[.int .u64 (size8 x).a, .int .u64 (size8 x).b, .int .u64 (size8 x).c, .int .u64 (size8 x).d, .int .u64 (size8 x).e, .int .u64 (size8 x).f, .int .u64 (size8 x).g, .int .u64 (size8 x).h]) := by
  unfold RetB
  cases ht : topB x.h with
  | true =>
    have e8 := Lib.hid (show size8 x = minus8 x from if_pos ht)
    have HT := Lib.hid ht
    clear ht
    go_enter Try.func90, Try.ntmps90
    go_wp2_with fail
    refine ((negC x _).eq (by rw [HT.out])).mono ?_
    rintro e w1 ⟨rfl, hS⟩
    have hW : Below w.heap.size w w1 := (((Below.refl _ _).alloc (Nat.le_refl _) _).alloc (by simp) _).trans (hS.mono (by simp; omega))
    have hR : Box w1 (w.heap.size + 1) _ _ := (Box.new (by simp)).step hS
    have hA : Box w1 w.heap.size [.int .u64 x.a, .int .u64 x.b, .int .u64 x.c, .int .u64 x.d, .int .u64 x.e, .int .u64 x.f, .int .u64 x.g, .int .u64 x.h] 128 := ((Box.new rfl).alloc _).step hS
    have q0 := (hA).cell 0; have q1 := (hA).cell 1; have q2 := (hA).cell 2; have q3 := (hA).cell 3; have q4 := (hA).cell 4; have q5 := (hA).cell 5; have q6 := (hA).cell 6; have q7 := (hA).cell 7; have qf := (hA).free
    simp only [List.getElem?_cons_zero, List.getElem?_cons_succ] at q0 q1 q2 q3 q4 q5 q6 q7
    have HR := Lib.hid hR; clear hR hA
    go_wp2_with fail
    refine (minusC x hx _).mono ?_
    rintro e w2 ⟨rfl, hS2⟩
    clear q0 q1 q2 q3 q4 q5 q6 q7 qf
    have hR2 := HR.out.step hS2
    have hz := HR.out.lt
    have z0 := (hR2).cell 0; have z1 := (hR2).cell 1; have z2 := (hR2).cell 2; have z3 := (hR2).cell 3; have z4 := (hR2).cell 4; have z5 := (hR2).cell 5; have z6 := (hR2).cell 6; have z7 := (hR2).cell 7; have zf := (hR2).free
    simp only [List.getElem?_cons_zero, List.getElem?_cons_succ] at z0 z1 z2 z3 z4 z5 z6 z7
    go_wp2
    rw [e8.out]
    exact bodyPost_ret (v := .agg #[.int .u64 (minus8 x).a, .int .u64 (minus8 x).b, .int .u64 (minus8 x).c, .int .u64 (minus8 x).d, .int .u64 (minus8 x).e, .int .u64 (minus8 x).f, .int .u64 (minus8 x).g, .int .u64 (minus8 x).h]) (by simp [results, Try.results90, go_sem, *]) rfl ⟨rfl, ((((((((hW.trans (hS2.mono (by omega))).setCell (by first | omega | (simp; done) | (simp; omega)) _).setCell (by first | omega | (simp; done) | (simp; omega)) _).setCell (by first | omega | (simp; done) | (simp; omega)) _).setCell (by first | omega | (simp; done) | (simp; omega)) _).setCell (by first | omega | (simp; done) | (simp; omega)) _).setCell (by first | omega | (simp; done) | (simp; omega)) _).setCell (by first | omega | (simp; done) | (simp; omega)) _).setCell (by first | omega | (simp; done) | (simp; omega)) _⟩
  | false =>
    have e8 := Lib.hid (show size8 x = x from if_neg (by rw [ht]; simp))
    have HT := Lib.hid ht
    clear ht
    go_enter Try.func90, Try.ntmps90
    go_wp2_with fail
    refine ((negC x _).eq (by rw [HT.out])).mono ?_
    rintro e w1 ⟨rfl, hS⟩
    have hW : Below w.heap.size w w1 := (((Below.refl _ _).alloc (Nat.le_refl _) _).alloc (by simp) _).trans (hS.mono (by simp; omega))
    have hR : Box w1 (w.heap.size + 1) _ _ := (Box.new (by simp)).step hS
    have hA : Box w1 w.heap.size [.int .u64 x.a, .int .u64 x.b, .int .u64 x.c, .int .u64 x.d, .int .u64 x.e, .int .u64 x.f, .int .u64 x.g, .int .u64 x.h] 128 := ((Box.new rfl).alloc _).step hS
    have q0 := (hA).cell 0; have q1 := (hA).cell 1; have q2 := (hA).cell 2; have q3 := (hA).cell 3; have q4 := (hA).cell 4; have q5 := (hA).cell 5; have q6 := (hA).cell 6; have q7 := (hA).cell 7; have qf := (hA).free
    simp only [List.getElem?_cons_zero, List.getElem?_cons_succ] at q0 q1 q2 q3 q4 q5 q6 q7
    have z0 := (hR).cell 0; have z1 := (hR).cell 1; have z2 := (hR).cell 2; have z3 := (hR).cell 3; have z4 := (hR).cell 4; have z5 := (hR).cell 5; have z6 := (hR).cell 6; have z7 := (hR).cell 7; have zf := (hR).free
    simp only [List.getElem?_cons_zero, List.getElem?_cons_succ] at z0 z1 z2 z3 z4 z5 z6 z7
    go_wp2
    rw [e8.out]
    exact bodyPost_ret (v := .agg #[.int .u64 x.a, .int .u64 x.b, .int .u64 x.c, .int .u64 x.d, .int .u64 x.e, .int .u64 x.f, .int .u64 x.g, .int .u64 x.h]) (by simp [results, Try.results90, go_sem, *]) rfl ⟨rfl, ((((((((hW).setCell (by first | omega | (simp; done) | (simp; omega)) _).setCell (by first | omega | (simp; done) | (simp; omega)) _).setCell (by first | omega | (simp; done) | (simp; omega)) _).setCell (by first | omega | (simp; done) | (simp; omega)) _).setCell (by first | omega | (simp; done) | (simp; omega)) _).setCell (by first | omega | (simp; done) | (simp; omega)) _).setCell (by first | omega | (simp; done) | (simp; omega)) _).setCell (by first | omega | (simp; done) | (simp; omega)) _⟩
end Go.Proofs.Ytbcjnckejkjfeaa
