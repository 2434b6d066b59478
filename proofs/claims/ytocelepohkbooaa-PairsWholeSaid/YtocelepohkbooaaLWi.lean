/- Pairs that are sorted again are the same ..: the law's walk whole. No condition. -/
import Derived.Test.YtocelepohkbooaaLWh
namespace Go.Proofs.Ytocelepohkbooaa
set_option linter.unusedVariables false
set_option linter.unusedSimpArgs false
open Go.RowKit Go.NP
namespace LWi
open QCk QCl QSd QDg QDf QRs QAw LWh
set_option maxRecDepth 100000 in
set_option maxHeartbeats 4000000 in
theorem lawC {A B : Option Addr} {n m : Nat} (c d : Nat) {a b : List Pr} (w : World) (h : SlD w A n c a) (hk : SlD w B m d b) : RetB Try.prog 6 #[.slice A n c, .slice B m d] w (.bool true) := by
  by_cases hn : 200 < n
  · have t1 : decide ((n : Int) > 200) = true := decide_eq_true (by omega)
    clear h hk
    go_enter Try.func6, Try.ntmps6
    go_wp2_with fail
    refine (awakeC w).mono ?_
    rintro e w1 ⟨rfl, hS1⟩
    go_wp2_with fail
    go_ret
    exact ⟨rfl, hS1⟩
  have t1 : decide ((n : Int) > 200) = false := decide_eq_false (by omega)
  by_cases hm : 200 < m
  · have t2 : decide ((m : Int) > 200) = true := decide_eq_true (by omega)
    clear h hk
    go_enter Try.func6, Try.ntmps6
    go_wp2_with fail
    refine (awakeC w).mono ?_
    rintro e w1 ⟨rfl, hS1⟩
    go_wp2_with fail
    go_ret
    exact ⟨rfl, hS1⟩
  have t2 : decide ((m : Int) > 200) = false := decide_eq_false (by omega)
  by_cases fa : fineS a = 0
  · by_cases fb : fineS b = 0
    · exact lawOk c d w h hk (by omega) (by omega) fa fb
    · obtain ⟨la, hla⟩ : ∃ x, (sortA a).length = x := ⟨_, rfl⟩
      have hlb : (sortA b).length = 0 := by unfold sortA; rw [if_neg fb]; rfl
      have x1 : (fineS b != 0) = true := by simpa using fb
      have x2 : (fineS b == 0) = false := by simpa using fb
      have FA := Lib.hid fa
      clear fa
      go_enter Try.func6, Try.ntmps6
      go_wp2_with fail
      refine (sortedC c w h.1).mono ?_
      rw [FA.out]
      rintro e w1 ⟨u, rfl, hu, hS⟩
      have hk1 := sd_step hk hS
      have B1 := hS
      clear h hk
      obtain ⟨A1, c1, rfl, hs1⟩ := own_sdn hu hla
      go_wp2_with fail
      refine (sortedC d w1 hk1.1).mono ?_
      rintro e w2 ⟨v, rfl, hv, hS2⟩
      have B2 := B1.trans (hS2.mono B1.size)
      obtain ⟨A2, c2, rfl, hs2⟩ := own_sdn hv hlb
      clear hu hs1 hv hs2 hk1 B1 hS2
      go_wp2_with fail
      refine (awakeEnd B2).mono ?_
      rintro e w3 ⟨rfl, hB⟩
      go_wp2_with fail
      go_ret
      exact ⟨rfl, hB⟩
  · have hla : (sortA a).length = 0 := by unfold sortA; rw [if_neg fa]; rfl
    have x1 : (fineS a != 0) = true := by simpa using fa
    have x2 : (fineS a == 0) = false := by simpa using fa
    by_cases fb : fineS b = 0
    · obtain ⟨lb, hlb⟩ : ∃ x, (sortA b).length = x := ⟨_, rfl⟩
      have y2 : (fineS b == 0) = true := by simpa using fb
      clear fb
      go_enter Try.func6, Try.ntmps6
      go_wp2_with fail
      refine (sortedC c w h.1).mono ?_
      rintro e w1 ⟨u, rfl, hu, hS⟩
      have hk1 := sd_step hk hS
      have B1 := hS
      clear h hk
      obtain ⟨A1, c1, rfl, hs1⟩ := own_sdn hu hla
      go_wp2_with fail
      refine (sortedC d w1 hk1.1).mono ?_
      rintro e w2 ⟨v, rfl, hv, hS2⟩
      have B2 := B1.trans (hS2.mono B1.size)
      obtain ⟨A2, c2, rfl, hs2⟩ := own_sdn hv hlb
      clear hu hs1 hv hs2 hk1 B1 hS2
      go_wp2_with fail
      refine (awakeEnd B2).mono ?_
      rintro e w3 ⟨rfl, hB⟩
      go_wp2_with fail
      go_ret
      exact ⟨rfl, hB⟩
    · have hlb : (sortA b).length = 0 := by unfold sortA; rw [if_neg fb]; rfl
      have y2 : (fineS b == 0) = false := by simpa using fb
      clear fb
      go_enter Try.func6, Try.ntmps6
      go_wp2_with fail
      refine (sortedC c w h.1).mono ?_
      rintro e w1 ⟨u, rfl, hu, hS⟩
      have hk1 := sd_step hk hS
      have B1 := hS
      clear h hk
      obtain ⟨A1, c1, rfl, hs1⟩ := own_sdn hu hla
      go_wp2_with fail
      refine (sortedC d w1 hk1.1).mono ?_
      rintro e w2 ⟨v, rfl, hv, hS2⟩
      have B2 := B1.trans (hS2.mono B1.size)
      obtain ⟨A2, c2, rfl, hs2⟩ := own_sdn hv hlb
      clear hu hs1 hv hs2 hk1 B1 hS2
      go_wp2_with fail
      refine (awakeEnd B2).mono ?_
      rintro e w3 ⟨rfl, hB⟩
      go_wp2_with fail
      go_ret
      exact ⟨rfl, hB⟩
end LWi
end Go.Proofs.Ytocelepohkbooaa
