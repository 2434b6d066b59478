/- Any pairs are put in order as the document says, and stay: the walk. No condition. -/
import Derived.Test.YtocelepohkbooaaQAw
import Derived.Test.YtocelepohkbooaaQRs
namespace Go.Proofs.Ytocelepohkbooaa
set_option linter.unusedVariables false
set_option linter.unusedSimpArgs false
open Go.RowKit Go.NP
namespace LSr
open QCk QCl QSd QDg QRs QAw
set_option maxRecDepth 100000 in
set_option maxHeartbeats 4000000 in
theorem lawC {A : Option Addr} {n : Nat} (c : Nat) {l : List Pr} (w : World) (h : SlD w A n c l) : RetB Try.prog 3 #[.slice A n c] w (.bool true) := by
  have H := Lib.hid h
  have hln := h.1.1
  clear h
  by_cases hn : 200 < n
  · have t1 : decide ((n : Int) > 200) = true := decide_eq_true (by omega)
    go_enter Try.func3, Try.ntmps3
    go_wp2_with fail
    refine (awakeC w).mono ?_
    rintro e w1 ⟨rfl, hS1⟩
    go_wp2_with fail
    go_ret
    exact ⟨rfl, hS1⟩
  · have t1 : decide ((n : Int) > 200) = false := decide_eq_false (by omega)
    have hn0 : OwnS (w.alloc (.cells #[] 39)) w.heap.size (.slice (some ⟨w.heap.size, 0, none⟩) 0 0) [] := own_new w [] (by simp)
    have S0 := (Below.refl w.heap.size w).alloc (Nat.le_refl _) (.cells #[] 39)
    have C1 : SlC (w.alloc (.cells #[] 39)) A n c l := ⟨H.out.1.step S0, H.out.2.1⟩
    go_enter Try.func3, Try.ntmps3
    go_wp2_with (at_builtin; refine wpL_all (by kernel_rfl) (.tmp 12) (.tmp 13) (by rfl) (by rfl) hn0 (by rfl) C1 (by simp) (by omega) S0.size ?_; intro v5 w5 hO5 hB5)
    rw [List.nil_append] at hO5
    have B5 := hB5 _ S0
    obtain ⟨A1, c1, e1, hs1⟩ := hO5.sl
    rw [hln] at e1 hs1
    subst e1
    have h5 := sd_step H.out B5
    clear hn0 S0 C1 hB5
    refine (sortedC c1 w5 hs1).mono ?_
    rintro e w6 ⟨u, rfl, hu, hS6⟩
    have h6 := sd_step h5 hS6
    have B6 := B5.trans (hS6.mono B5.size)
    have hs6 := hs1.step hS6
    clear h5 hO5 hs1
    go_wp2_with fail
    refine (rsortedC c w6 h6.1 (by omega)).mono ?_
    rintro e w7 ⟨v, rfl, hv, hS7⟩
    have h7 := sd_step h6 hS7
    have B7 := B6.trans (hS7.mono B6.size)
    have hs7 := hs6.step hS7
    have hu := hu.step hS7
    obtain ⟨A2, c2, rfl, hsu⟩ := hu.sl
    obtain ⟨A3, c3, rfl, hsv⟩ := hv.sl
    have ls : (sortA l).length ≤ 1000000 := by
      unfold sortA
      split
      · exact Nat.le_trans (sortS_len l) (by omega)
      · simp
    clear h6 hs6 hu hv
    go_wp2_with fail
    refine (sameC w7 hsu hsv ls).mono ?_
    rintro e w8 ⟨rfl, hS8⟩
    rw [decide_eq_true (rfl : sortA l = sortA l)]
    have h8 := sd_step h7 hS8
    have B8 := B7.trans (hS8.mono B7.size)
    have hs8 := hs7.step hS8
    clear h7 hs7 hsu hsv ls
    go_wp2_with fail
    refine (checkC c1 w8 hs8).mono ?_
    rintro e w9 ⟨rfl, hS9⟩
    have h9 := sd_step h8 hS9
    have B9 := B8.trans (hS9.mono B8.size)
    have hs9 := hs8.step hS9
    clear h8 hs8
    go_wp2_with fail
    refine (rcheckC c w9 h9.1).mono ?_
    rintro e w10 ⟨rfl, hS10⟩
    have h10 := sd_step h9 hS10
    have B10 := B9.trans (hS10.mono B9.size)
    have hs10 := hs9.step hS10
    clear h9 hs9
    go_wp2_with fail
    refine (sameC w10 hs10 h10.1 (by omega)).mono ?_
    rintro e w11 ⟨rfl, hS11⟩
    rw [decide_eq_true (rfl : l = l)]
    have B11 := B10.trans (hS11.mono B10.size)
    go_wp2_with fail
    refine (awakeC w11).mono ?_
    rintro e w12 ⟨rfl, hS12⟩
    go_wp2_with fail
    go_ret
    exact ⟨rfl, B11.trans (hS12.mono B11.size)⟩
end LSr
end Go.Proofs.Ytocelepohkbooaa
