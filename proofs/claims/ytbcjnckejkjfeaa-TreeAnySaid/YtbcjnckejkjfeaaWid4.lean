/- Integers of 512 bits as eight words: comparing. No condition. -/
import Derived.Test.YtbcjnckejkjfeaaWid3
import Derived.Deep.QuietTactic
import Derived.BigQuiet
namespace Go.Proofs.Ytbcjnckejkjfeaa
set_option linter.unusedVariables false
set_option linter.unusedSimpArgs false
open Go.RowKit Go.NP
def step8 (a b r : Int) : Int := if a = b then r else if a < b then -1 else 1
theorem step8_eq {a b r : Int} (h : a = b) : step8 a b r = r := if_pos h
theorem step8_lt {a b r : Int} (h : ¬ a = b) (h' : a < b) : step8 a b r = -1 := by unfold step8; rw [if_neg h, if_pos h']
theorem step8_gt {a b r : Int} (h : ¬ a = b) (h' : b ≤ a) : step8 a b r = 1 := by unfold step8; rw [if_neg h, if_neg (by omega)]
def above8 (x y : L8) : Int := step8 x.h y.h (step8 x.g y.g (step8 x.f y.f (step8 x.e y.e (step8 x.d y.d (step8 x.c y.c (step8 x.b y.b (step8 x.a y.a 0)))))))
theorem retI {k : IntKind} {a b : Int} (h : a = b) : Ending.returned (.int k a) = .returned (.int k b) := by rw [h]
theorem bne_t {a b : Int} (h : ¬ a = b) : (a != b) = true := by simpa using h
theorem bne_f {a b : Int} (h : a = b) : (a != b) = false := by simpa using h
set_option maxRecDepth 100000 in
set_option maxHeartbeats 4000000 in
theorem aboveC (x y : L8) (w : World) : RetB Try.prog 95 #[.agg #[.int .u64 x.a, .int .u64 x.b, .int .u64 x.c, .int .u64 x.d, .int .u64 x.e, .int .u64 x.f, .int .u64 x.g, .int .u64 x.h], .agg #[.int .u64 y.a, .int .u64 y.b, .int .u64 y.c, .int .u64 y.d, .int .u64 y.e, .int .u64 y.f, .int .u64 y.g, .int .u64 y.h]] w (.int .i64 (above8 x y)) := by
  generalize hr : above8 x y = r
  have HR := Lib.hid hr
  clear hr
  unfold RetB
  by_cases e0 : x.h = y.h
  · have b0 := bne_f e0; have E0 := Lib.hid e0; clear e0
    by_cases e1 : x.g = y.g
    · have b1 := bne_f e1; have E1 := Lib.hid e1; clear e1
      by_cases e2 : x.f = y.f
      · have b2 := bne_f e2; have E2 := Lib.hid e2; clear e2
        by_cases e3 : x.e = y.e
        · have b3 := bne_f e3; have E3 := Lib.hid e3; clear e3
          by_cases e4 : x.d = y.d
          · have b4 := bne_f e4; have E4 := Lib.hid e4; clear e4
            by_cases e5 : x.c = y.c
            · have b5 := bne_f e5; have E5 := Lib.hid e5; clear e5
              by_cases e6 : x.b = y.b
              · have b6 := bne_f e6; have E6 := Lib.hid e6; clear e6
                by_cases e7 : x.a = y.a
                · have b7 := bne_f e7; have E7 := Lib.hid e7; clear e7
                  go_enter Try.func95, Try.ntmps95
                  go_wp2
                  refine wp_loop_rounds 9 ?_
                  rw [rounds_succ]; go_wp2
                  go_quiet (fail)
                  go_wp2
                  rw [rounds_succ]; go_wp2
                  go_quiet (fail)
                  go_wp2
                  rw [rounds_succ]; go_wp2
                  go_quiet (fail)
                  go_wp2
                  rw [rounds_succ]; go_wp2
                  go_quiet (fail)
                  go_wp2
                  rw [rounds_succ]; go_wp2
                  go_quiet (fail)
                  go_wp2
                  rw [rounds_succ]; go_wp2
                  go_quiet (fail)
                  go_wp2
                  rw [rounds_succ]; go_wp2
                  go_quiet (fail)
                  go_wp2
                  rw [rounds_succ]; go_wp2
                  go_quiet (fail)
                  go_wp2
                  rw [rounds_succ]; go_wp2
                  go_ret
                  exact ⟨retI (by have := HR.out; rw [← this]; unfold above8; rw [step8_eq E0.out, step8_eq E1.out, step8_eq E2.out, step8_eq E3.out, step8_eq E4.out, step8_eq E5.out, step8_eq E6.out, step8_eq E7.out]), (((Below.refl _ _).alloc (Nat.le_refl _) _).alloc (by simp) _).trans ⟨rfl, rfl, rfl, by simp, fun _ _ => rfl⟩⟩
                · have b7 := bne_t e7; have E7 := Lib.hid e7; clear e7
                  by_cases l7 : x.a < y.a
                  · have L7 := Lib.hid l7; have c7 : decide (x.a < y.a) = true := decide_eq_true l7; clear l7
                    go_enter Try.func95, Try.ntmps95
                    go_wp2
                    refine wp_loop_rounds 9 ?_
                    rw [rounds_succ]; go_wp2
                    go_quiet (fail)
                    go_wp2
                    rw [rounds_succ]; go_wp2
                    go_quiet (fail)
                    go_wp2
                    rw [rounds_succ]; go_wp2
                    go_quiet (fail)
                    go_wp2
                    rw [rounds_succ]; go_wp2
                    go_quiet (fail)
                    go_wp2
                    rw [rounds_succ]; go_wp2
                    go_quiet (fail)
                    go_wp2
                    rw [rounds_succ]; go_wp2
                    go_quiet (fail)
                    go_wp2
                    rw [rounds_succ]; go_wp2
                    go_quiet (fail)
                    go_wp2
                    rw [rounds_succ]; go_wp2
                    go_quiet (fail)
                    go_wp2
                    go_quiet (fail)
                    go_wp2
                    go_ret
                    exact ⟨retI (by have := HR.out; rw [← this]; unfold above8; rw [step8_eq E0.out, step8_eq E1.out, step8_eq E2.out, step8_eq E3.out, step8_eq E4.out, step8_eq E5.out, step8_eq E6.out, step8_lt E7.out L7.out]), (((Below.refl _ _).alloc (Nat.le_refl _) _).alloc (by simp) _).trans ⟨rfl, rfl, rfl, by simp, fun _ _ => rfl⟩⟩
                  · have m7 : y.a ≤ x.a := (by omega); have L7 := Lib.hid m7; have c7 : decide (x.a < y.a) = false := decide_eq_false l7; clear l7
                    clear m7
                    go_enter Try.func95, Try.ntmps95
                    go_wp2
                    refine wp_loop_rounds 9 ?_
                    rw [rounds_succ]; go_wp2
                    go_quiet (fail)
                    go_wp2
                    rw [rounds_succ]; go_wp2
                    go_quiet (fail)
                    go_wp2
                    rw [rounds_succ]; go_wp2
                    go_quiet (fail)
                    go_wp2
                    rw [rounds_succ]; go_wp2
                    go_quiet (fail)
                    go_wp2
                    rw [rounds_succ]; go_wp2
                    go_quiet (fail)
                    go_wp2
                    rw [rounds_succ]; go_wp2
                    go_quiet (fail)
                    go_wp2
                    rw [rounds_succ]; go_wp2
                    go_quiet (fail)
                    go_wp2
                    rw [rounds_succ]; go_wp2
                    go_quiet (fail)
                    go_wp2
                    go_quiet (fail)
                    go_wp2
                    go_ret
                    exact ⟨retI (by have := HR.out; rw [← this]; unfold above8; rw [step8_eq E0.out, step8_eq E1.out, step8_eq E2.out, step8_eq E3.out, step8_eq E4.out, step8_eq E5.out, step8_eq E6.out, step8_gt E7.out L7.out]), (((Below.refl _ _).alloc (Nat.le_refl _) _).alloc (by simp) _).trans ⟨rfl, rfl, rfl, by simp, fun _ _ => rfl⟩⟩
              · have b6 := bne_t e6; have E6 := Lib.hid e6; clear e6
                by_cases l6 : x.b < y.b
                · have L6 := Lib.hid l6; have c6 : decide (x.b < y.b) = true := decide_eq_true l6; clear l6
                  go_enter Try.func95, Try.ntmps95
                  go_wp2
                  refine wp_loop_rounds 9 ?_
                  rw [rounds_succ]; go_wp2
                  go_quiet (fail)
                  go_wp2
                  rw [rounds_succ]; go_wp2
                  go_quiet (fail)
                  go_wp2
                  rw [rounds_succ]; go_wp2
                  go_quiet (fail)
                  go_wp2
                  rw [rounds_succ]; go_wp2
                  go_quiet (fail)
                  go_wp2
                  rw [rounds_succ]; go_wp2
                  go_quiet (fail)
                  go_wp2
                  rw [rounds_succ]; go_wp2
                  go_quiet (fail)
                  go_wp2
                  rw [rounds_succ]; go_wp2
                  go_quiet (fail)
                  go_wp2
                  go_quiet (fail)
                  go_wp2
                  go_ret
                  exact ⟨retI (by have := HR.out; rw [← this]; unfold above8; rw [step8_eq E0.out, step8_eq E1.out, step8_eq E2.out, step8_eq E3.out, step8_eq E4.out, step8_eq E5.out, step8_lt E6.out L6.out]), (((Below.refl _ _).alloc (Nat.le_refl _) _).alloc (by simp) _).trans ⟨rfl, rfl, rfl, by simp, fun _ _ => rfl⟩⟩
                · have m6 : y.b ≤ x.b := (by omega); have L6 := Lib.hid m6; have c6 : decide (x.b < y.b) = false := decide_eq_false l6; clear l6
                  clear m6
                  go_enter Try.func95, Try.ntmps95
                  go_wp2
                  refine wp_loop_rounds 9 ?_
                  rw [rounds_succ]; go_wp2
                  go_quiet (fail)
                  go_wp2
                  rw [rounds_succ]; go_wp2
                  go_quiet (fail)
                  go_wp2
                  rw [rounds_succ]; go_wp2
                  go_quiet (fail)
                  go_wp2
                  rw [rounds_succ]; go_wp2
                  go_quiet (fail)
                  go_wp2
                  rw [rounds_succ]; go_wp2
                  go_quiet (fail)
                  go_wp2
                  rw [rounds_succ]; go_wp2
                  go_quiet (fail)
                  go_wp2
                  rw [rounds_succ]; go_wp2
                  go_quiet (fail)
                  go_wp2
                  go_quiet (fail)
                  go_wp2
                  go_ret
                  exact ⟨retI (by have := HR.out; rw [← this]; unfold above8; rw [step8_eq E0.out, step8_eq E1.out, step8_eq E2.out, step8_eq E3.out, step8_eq E4.out, step8_eq E5.out, step8_gt E6.out L6.out]), (((Below.refl _ _).alloc (Nat.le_refl _) _).alloc (by simp) _).trans ⟨rfl, rfl, rfl, by simp, fun _ _ => rfl⟩⟩
            · have b5 := bne_t e5; have E5 := Lib.hid e5; clear e5
              by_cases l5 : x.c < y.c
              · have L5 := Lib.hid l5; have c5 : decide (x.c < y.c) = true := decide_eq_true l5; clear l5
                go_enter Try.func95, Try.ntmps95
                go_wp2
                refine wp_loop_rounds 9 ?_
                rw [rounds_succ]; go_wp2
                go_quiet (fail)
                go_wp2
                rw [rounds_succ]; go_wp2
                go_quiet (fail)
                go_wp2
                rw [rounds_succ]; go_wp2
                go_quiet (fail)
                go_wp2
                rw [rounds_succ]; go_wp2
                go_quiet (fail)
                go_wp2
                rw [rounds_succ]; go_wp2
                go_quiet (fail)
                go_wp2
                rw [rounds_succ]; go_wp2
                go_quiet (fail)
                go_wp2
                go_quiet (fail)
                go_wp2
                go_ret
                exact ⟨retI (by have := HR.out; rw [← this]; unfold above8; rw [step8_eq E0.out, step8_eq E1.out, step8_eq E2.out, step8_eq E3.out, step8_eq E4.out, step8_lt E5.out L5.out]), (((Below.refl _ _).alloc (Nat.le_refl _) _).alloc (by simp) _).trans ⟨rfl, rfl, rfl, by simp, fun _ _ => rfl⟩⟩
              · have m5 : y.c ≤ x.c := (by omega); have L5 := Lib.hid m5; have c5 : decide (x.c < y.c) = false := decide_eq_false l5; clear l5
                clear m5
                go_enter Try.func95, Try.ntmps95
                go_wp2
                refine wp_loop_rounds 9 ?_
                rw [rounds_succ]; go_wp2
                go_quiet (fail)
                go_wp2
                rw [rounds_succ]; go_wp2
                go_quiet (fail)
                go_wp2
                rw [rounds_succ]; go_wp2
                go_quiet (fail)
                go_wp2
                rw [rounds_succ]; go_wp2
                go_quiet (fail)
                go_wp2
                rw [rounds_succ]; go_wp2
                go_quiet (fail)
                go_wp2
                rw [rounds_succ]; go_wp2
                go_quiet (fail)
                go_wp2
                go_quiet (fail)
                go_wp2
                go_ret
                exact ⟨retI (by have := HR.out; rw [← this]; unfold above8; rw [step8_eq E0.out, step8_eq E1.out, step8_eq E2.out, step8_eq E3.out, step8_eq E4.out, step8_gt E5.out L5.out]), (((Below.refl _ _).alloc (Nat.le_refl _) _).alloc (by simp) _).trans ⟨rfl, rfl, rfl, by simp, fun _ _ => rfl⟩⟩
          · have b4 := bne_t e4; have E4 := Lib.hid e4; clear e4
            by_cases l4 : x.d < y.d
            · have L4 := Lib.hid l4; have c4 : decide (x.d < y.d) = true := decide_eq_true l4; clear l4
              go_enter Try.func95, Try.ntmps95
              go_wp2
              refine wp_loop_rounds 9 ?_
              rw [rounds_succ]; go_wp2
              go_quiet (fail)
              go_wp2
              rw [rounds_succ]; go_wp2
              go_quiet (fail)
              go_wp2
              rw [rounds_succ]; go_wp2
              go_quiet (fail)
              go_wp2
              rw [rounds_succ]; go_wp2
              go_quiet (fail)
              go_wp2
              rw [rounds_succ]; go_wp2
              go_quiet (fail)
              go_wp2
              go_quiet (fail)
              go_wp2
              go_ret
              exact ⟨retI (by have := HR.out; rw [← this]; unfold above8; rw [step8_eq E0.out, step8_eq E1.out, step8_eq E2.out, step8_eq E3.out, step8_lt E4.out L4.out]), (((Below.refl _ _).alloc (Nat.le_refl _) _).alloc (by simp) _).trans ⟨rfl, rfl, rfl, by simp, fun _ _ => rfl⟩⟩
            · have m4 : y.d ≤ x.d := (by omega); have L4 := Lib.hid m4; have c4 : decide (x.d < y.d) = false := decide_eq_false l4; clear l4
              clear m4
              go_enter Try.func95, Try.ntmps95
              go_wp2
              refine wp_loop_rounds 9 ?_
              rw [rounds_succ]; go_wp2
              go_quiet (fail)
              go_wp2
              rw [rounds_succ]; go_wp2
              go_quiet (fail)
              go_wp2
              rw [rounds_succ]; go_wp2
              go_quiet (fail)
              go_wp2
              rw [rounds_succ]; go_wp2
              go_quiet (fail)
              go_wp2
              rw [rounds_succ]; go_wp2
              go_quiet (fail)
              go_wp2
              go_quiet (fail)
              go_wp2
              go_ret
              exact ⟨retI (by have := HR.out; rw [← this]; unfold above8; rw [step8_eq E0.out, step8_eq E1.out, step8_eq E2.out, step8_eq E3.out, step8_gt E4.out L4.out]), (((Below.refl _ _).alloc (Nat.le_refl _) _).alloc (by simp) _).trans ⟨rfl, rfl, rfl, by simp, fun _ _ => rfl⟩⟩
        · have b3 := bne_t e3; have E3 := Lib.hid e3; clear e3
          by_cases l3 : x.e < y.e
          · have L3 := Lib.hid l3; have c3 : decide (x.e < y.e) = true := decide_eq_true l3; clear l3
            go_enter Try.func95, Try.ntmps95
            go_wp2
            refine wp_loop_rounds 9 ?_
            rw [rounds_succ]; go_wp2
            go_quiet (fail)
            go_wp2
            rw [rounds_succ]; go_wp2
            go_quiet (fail)
            go_wp2
            rw [rounds_succ]; go_wp2
            go_quiet (fail)
            go_wp2
            rw [rounds_succ]; go_wp2
            go_quiet (fail)
            go_wp2
            go_quiet (fail)
            go_wp2
            go_ret
            exact ⟨retI (by have := HR.out; rw [← this]; unfold above8; rw [step8_eq E0.out, step8_eq E1.out, step8_eq E2.out, step8_lt E3.out L3.out]), (((Below.refl _ _).alloc (Nat.le_refl _) _).alloc (by simp) _).trans ⟨rfl, rfl, rfl, by simp, fun _ _ => rfl⟩⟩
          · have m3 : y.e ≤ x.e := (by omega); have L3 := Lib.hid m3; have c3 : decide (x.e < y.e) = false := decide_eq_false l3; clear l3
            clear m3
            go_enter Try.func95, Try.ntmps95
            go_wp2
            refine wp_loop_rounds 9 ?_
            rw [rounds_succ]; go_wp2
            go_quiet (fail)
            go_wp2
            rw [rounds_succ]; go_wp2
            go_quiet (fail)
            go_wp2
            rw [rounds_succ]; go_wp2
            go_quiet (fail)
            go_wp2
            rw [rounds_succ]; go_wp2
            go_quiet (fail)
            go_wp2
            go_quiet (fail)
            go_wp2
            go_ret
            exact ⟨retI (by have := HR.out; rw [← this]; unfold above8; rw [step8_eq E0.out, step8_eq E1.out, step8_eq E2.out, step8_gt E3.out L3.out]), (((Below.refl _ _).alloc (Nat.le_refl _) _).alloc (by simp) _).trans ⟨rfl, rfl, rfl, by simp, fun _ _ => rfl⟩⟩
      · have b2 := bne_t e2; have E2 := Lib.hid e2; clear e2
        by_cases l2 : x.f < y.f
        · have L2 := Lib.hid l2; have c2 : decide (x.f < y.f) = true := decide_eq_true l2; clear l2
          go_enter Try.func95, Try.ntmps95
          go_wp2
          refine wp_loop_rounds 9 ?_
          rw [rounds_succ]; go_wp2
          go_quiet (fail)
          go_wp2
          rw [rounds_succ]; go_wp2
          go_quiet (fail)
          go_wp2
          rw [rounds_succ]; go_wp2
          go_quiet (fail)
          go_wp2
          go_quiet (fail)
          go_wp2
          go_ret
          exact ⟨retI (by have := HR.out; rw [← this]; unfold above8; rw [step8_eq E0.out, step8_eq E1.out, step8_lt E2.out L2.out]), (((Below.refl _ _).alloc (Nat.le_refl _) _).alloc (by simp) _).trans ⟨rfl, rfl, rfl, by simp, fun _ _ => rfl⟩⟩
        · have m2 : y.f ≤ x.f := (by omega); have L2 := Lib.hid m2; have c2 : decide (x.f < y.f) = false := decide_eq_false l2; clear l2
          clear m2
          go_enter Try.func95, Try.ntmps95
          go_wp2
          refine wp_loop_rounds 9 ?_
          rw [rounds_succ]; go_wp2
          go_quiet (fail)
          go_wp2
          rw [rounds_succ]; go_wp2
          go_quiet (fail)
          go_wp2
          rw [rounds_succ]; go_wp2
          go_quiet (fail)
          go_wp2
          go_quiet (fail)
          go_wp2
          go_ret
          exact ⟨retI (by have := HR.out; rw [← this]; unfold above8; rw [step8_eq E0.out, step8_eq E1.out, step8_gt E2.out L2.out]), (((Below.refl _ _).alloc (Nat.le_refl _) _).alloc (by simp) _).trans ⟨rfl, rfl, rfl, by simp, fun _ _ => rfl⟩⟩
    · have b1 := bne_t e1; have E1 := Lib.hid e1; clear e1
      by_cases l1 : x.g < y.g
      · have L1 := Lib.hid l1; have c1 : decide (x.g < y.g) = true := decide_eq_true l1; clear l1
        go_enter Try.func95, Try.ntmps95
        go_wp2
        refine wp_loop_rounds 9 ?_
        rw [rounds_succ]; go_wp2
        go_quiet (fail)
        go_wp2
        rw [rounds_succ]; go_wp2
        go_quiet (fail)
        go_wp2
        go_quiet (fail)
        go_wp2
        go_ret
        exact ⟨retI (by have := HR.out; rw [← this]; unfold above8; rw [step8_eq E0.out, step8_lt E1.out L1.out]), (((Below.refl _ _).alloc (Nat.le_refl _) _).alloc (by simp) _).trans ⟨rfl, rfl, rfl, by simp, fun _ _ => rfl⟩⟩
      · have m1 : y.g ≤ x.g := (by omega); have L1 := Lib.hid m1; have c1 : decide (x.g < y.g) = false := decide_eq_false l1; clear l1
        clear m1
        go_enter Try.func95, Try.ntmps95
        go_wp2
        refine wp_loop_rounds 9 ?_
        rw [rounds_succ]; go_wp2
        go_quiet (fail)
        go_wp2
        rw [rounds_succ]; go_wp2
        go_quiet (fail)
        go_wp2
        go_quiet (fail)
        go_wp2
        go_ret
        exact ⟨retI (by have := HR.out; rw [← this]; unfold above8; rw [step8_eq E0.out, step8_gt E1.out L1.out]), (((Below.refl _ _).alloc (Nat.le_refl _) _).alloc (by simp) _).trans ⟨rfl, rfl, rfl, by simp, fun _ _ => rfl⟩⟩
  · have b0 := bne_t e0; have E0 := Lib.hid e0; clear e0
    by_cases l0 : x.h < y.h
    · have L0 := Lib.hid l0; have c0 : decide (x.h < y.h) = true := decide_eq_true l0; clear l0
      go_enter Try.func95, Try.ntmps95
      go_wp2
      refine wp_loop_rounds 9 ?_
      rw [rounds_succ]; go_wp2
      go_quiet (fail)
      go_wp2
      go_quiet (fail)
      go_wp2
      go_ret
      exact ⟨retI (by have := HR.out; rw [← this]; unfold above8; rw [step8_lt E0.out L0.out]), (((Below.refl _ _).alloc (Nat.le_refl _) _).alloc (by simp) _).trans ⟨rfl, rfl, rfl, by simp, fun _ _ => rfl⟩⟩
    · have m0 : y.h ≤ x.h := (by omega); have L0 := Lib.hid m0; have c0 : decide (x.h < y.h) = false := decide_eq_false l0; clear l0
      clear m0
      go_enter Try.func95, Try.ntmps95
      go_wp2
      refine wp_loop_rounds 9 ?_
      rw [rounds_succ]; go_wp2
      go_quiet (fail)
      go_wp2
      go_quiet (fail)
      go_wp2
      go_ret
      exact ⟨retI (by have := HR.out; rw [← this]; unfold above8; rw [step8_gt E0.out L0.out]), (((Below.refl _ _).alloc (Nat.le_refl _) _).alloc (by simp) _).trans ⟨rfl, rfl, rfl, by simp, fun _ _ => rfl⟩⟩
end Go.Proofs.Ytbcjnckejkjfeaa
