/- What began, stayed and ended of any pairs is the document's, or refused: the walk. No condition. -/
import Derived.Test.YtocelepohkbooaaQAw
import Derived.Test.YtocelepohkbooaaQRs
namespace Go.Proofs.Ytocelepohkbooaa
set_option linter.unusedVariables false
set_option linter.unusedSimpArgs false
open Go.RowKit Go.NP
namespace LDi
open QCk QCl QSd QDg QDf QRs QAw
set_option maxRecDepth 100000 in
set_option maxHeartbeats 4000000 in
theorem lawC {A B : Option Addr} {n m : Nat} (c d : Nat) {l k : List Pr} (w : World) (h : SlD w A n c l) (hk : SlD w B m d k) : RetB Try.prog 4 #[.slice A n c, .slice B m d] w (.bool true) := by
  have hln := h.1.1
  have hkn := hk.1.1
  by_cases hn : 200 < n
  · have t1 : decide ((n : Int) > 200) = true := decide_eq_true (by omega)
    clear h hk
    go_enter Try.func4, Try.ntmps4
    go_wp2_with fail
    refine (awakeC w).mono ?_
    rintro e w1 ⟨rfl, hS1⟩
    go_wp2_with fail
    go_ret
    exact ⟨rfl, hS1⟩
  have t1 : decide ((n : Int) > 200) = false := decide_eq_false (by omega)
  by_cases hm : 200 < m
  · have t2 : decide ((m : Int) > 200) = true := decide_eq_true (by omega)
    clear h hk
    go_enter Try.func4, Try.ntmps4
    go_wp2_with fail
    refine (awakeC w).mono ?_
    rintro e w1 ⟨rfl, hS1⟩
    go_wp2_with fail
    go_ret
    exact ⟨rfl, hS1⟩
  have t2 : decide ((m : Int) > 200) = false := decide_eq_false (by omega)
  have HD := Lib.hid (diffC c d w h hk)
  have HR := Lib.hid (fun w1 (hS : Below w.heap.size w w1) => rdiffC c d w1 (h.1.step hS) (hk.1.step hS))
  clear h hk
  obtain ⟨x, hx⟩ : ∃ x, (if diffE l k = 0 then onl k l false else []) = x := ⟨_, rfl⟩
  obtain ⟨y, hy⟩ : ∃ x, (if diffE l k = 0 then onl l k true else []) = x := ⟨_, rfl⟩
  obtain ⟨z, hz⟩ : ∃ x, (if diffE l k = 0 then onl l k false else []) = x := ⟨_, rfl⟩
  obtain ⟨er, her⟩ : ∃ x, diffE l k = x := ⟨_, rfl⟩
  have lx : x.length ≤ 1000000 := by rw [← hx]; split; exact Nat.le_trans (onl_len _ _ _) (by omega); simp
  have ly : y.length ≤ 1000000 := by rw [← hy]; split; exact Nat.le_trans (onl_len _ _ _) (by omega); simp
  have lz : z.length ≤ 1000000 := by rw [← hz]; split; exact Nat.le_trans (onl_len _ _ _) (by omega); simp
  have HD2 := Lib.hid (show Ret3 14 #[.slice A n c, .slice B m d] w x y z er from by have := HD.out; rw [hx, hy, hz, her] at this; exact this)
  have HR2 := Lib.hid (fun w1 (hS : Below w.heap.size w w1) => (show Ret3 15 #[.slice A n c, .slice B m d] w1 x y z er from by have := HR.out w1 hS; rw [hx, hy, hz, her] at this; exact this))
  clear HD HR hx hy hz her hln hkn hn hm
  go_enter Try.func4, Try.ntmps4
  go_wp2_with fail
  refine HD2.out.mono ?_
  rintro e w1 ⟨u1, u2, u3, rfl, h1, h2, h3, hS1⟩
  go_wp2_with fail
  refine (HR2.out w1 hS1).mono ?_
  rintro e w2 ⟨v1, v2, v3, rfl, g1, g2, g3, hS2⟩
  have B2 := hS1.trans (hS2.mono hS1.size)
  have h1 := h1.step hS2; have h2 := h2.step hS2; have h3 := h3.step hS2
  clear HD2 HR2 hS1 hS2
  obtain ⟨A1, a1, rfl, i1⟩ := h1.sl
  obtain ⟨A2, a2, rfl, i2⟩ := h2.sl
  obtain ⟨A3, a3, rfl, i3⟩ := h3.sl
  obtain ⟨B1, b1, rfl, j1⟩ := g1.sl
  obtain ⟨B2', b2, rfl, j2⟩ := g2.sl
  obtain ⟨B3, b3, rfl, j3⟩ := g3.sl
  clear h1 h2 h3 g1 g2 g3
  go_wp2_with fail
  refine (sameC w2 i1 j1 lx).mono ?_
  rintro e w3 ⟨rfl, hS3⟩
  rw [decide_eq_true (rfl : x = x)]
  have B3' := B2.trans (hS3.mono B2.size)
  have i2 := i2.step hS3; have i3 := i3.step hS3; have j2 := j2.step hS3; have j3 := j3.step hS3
  clear i1 j1 B2 hS3
  go_wp2_with fail
  refine (sameC w3 i2 j2 ly).mono ?_
  rintro e w4 ⟨rfl, hS4⟩
  rw [decide_eq_true (rfl : y = y)]
  have B4 := B3'.trans (hS4.mono B3'.size)
  have i3 := i3.step hS4; have j3 := j3.step hS4
  clear i2 j2 B3' hS4
  go_wp2_with fail
  refine (sameC w4 i3 j3 lz).mono ?_
  rintro e w5 ⟨rfl, hS5⟩
  rw [decide_eq_true (rfl : z = z)]
  have B5 := B4.trans (hS5.mono B4.size)
  clear i3 j3 B4 hS5
  go_wp2_with fail
  refine (awakeC w5).mono ?_
  rintro e w6 ⟨rfl, hS6⟩
  go_wp2_with fail
  go_ret
  exact ⟨rfl, B5.trans (hS6.mono B5.size)⟩
end LDi
end Go.Proofs.Ytocelepohkbooaa
