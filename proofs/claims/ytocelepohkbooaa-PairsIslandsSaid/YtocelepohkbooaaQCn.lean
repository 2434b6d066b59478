/- slices.Clone of pairs: the walk. Condition: the slice's cells are as told. -/
import Derived.Test.YtocelepohkbooaaQSl
import Derived.Lib.Hide
namespace Go.Proofs.Ytocelepohkbooaa
set_option linter.unusedVariables false
set_option linter.unusedSimpArgs false
open Go.RowKit Go.NP
namespace QCn
set_option maxRecDepth 100000 in
set_option maxHeartbeats 2000000 in
theorem cloneA {ad : Addr} {n cap : Nat} {l : List Pr} (w : World) (h : SlS w (some ad) n l) (hi : n ≤ 1000000) :
    Calls Try.prog 22 #[.slice (some ad) n cap] w fun e w' => ∃ v, e = .returned v ∧ OwnS w' w.heap.size v l ∧ Below w.heap.size w w' := by
  have H := Lib.hid h
  clear h
  obtain ⟨i0, hi0, hz0, hz1, hz2⟩ := info_parts infoPa
  have HZ := Lib.hid hz0; have HZ1 := Lib.hid hz1; have HZ2 := Lib.hid hz2; have HI := Lib.hid hi0
  clear hz0 hz1 hz2 hi0
  have qT : ∀ (w : World) (a : Option Addr) (n c n' c' : Nat), (binOp .eql 22 (.slice a n c) (.slice none n' c')).run Try.prog w = .ok (.bool a.isNone) w := fun w a n c n' c' => Lib.run_eql_slice_nil w _ _ a n c n' c' Try.underlying22
  go_enter Try.func22, Try.ntmps22
  go_wp2_with (at_builtin; refine wpList_append_own _ rfl (.tmp 5) (.tmp 6) 22 rfl w.heap.size 39 i0 (.agg #[.int .i64 0, .int .i64 0]) 2 16 Try.underlying22 HI.out HZ.out HZ1.out HZ2.out rfl (by decide) (.slice (some ⟨w.heap.size, 0, none⟩) 0 0) 0 [] rfl ⟨rfl, .inr ⟨_, 0, #[], rfl, Nat.le_refl _, World.alloc_heap_new w _, Nat.le_refl _, by unfold maxLen; omega, rfl, rfl⟩⟩ ad n cap (prvs l) rfl (by rw [prvs_len, H.out.1]) (SlS.news (H.out.step ((Below.refl _ _).alloc (Nat.le_refl _) _))) prvs_one (by unfold maxLen; omega) (by omega) (by simp) ?_; intro v' w1 hown hgrow hnil)
  go_ret
  refine ⟨v', rfl, ?_, ?_⟩
  · have h1 := H.out.1
    unfold OwnS
    rw [h1]
    simpa using hown
  · exact ((Below.refl _ _).alloc (Nat.le_refl _) _).grown hgrow (by simp) fun k e => by cases e; exact Nat.le_refl _
set_option maxRecDepth 100000 in
set_option maxHeartbeats 2000000 in
theorem clone0 (n cap : Nat) (w : World) : Calls Try.prog 22 #[.slice none n cap] w fun e w' => e = .returned (.slice none 0 0) ∧ Below w.heap.size w w' := by
  have qT : ∀ (w : World) (a : Option Addr) (n c n' c' : Nat), (binOp .eql 22 (.slice a n c) (.slice none n' c')).run Try.prog w = .ok (.bool a.isNone) w := fun w a n c n' c' => Lib.run_eql_slice_nil w _ _ a n c n' c' Try.underlying22
  go_enter Try.func22, Try.ntmps22
  go_wp2
  go_ret
  exact ⟨rfl, Below.refl _ _⟩
theorem cloneC {A : Option Addr} {n : Nat} (cap : Nat) {l : List Pr} (w : World) (h : SlS w A n l) (hi : n ≤ 1000000) :
    Calls Try.prog 22 #[.slice A n cap] w fun e w' => ∃ v, e = .returned v ∧ OwnS w' w.heap.size v l ∧ Below w.heap.size w w' := by
  cases A with
  | some ad => exact cloneA w h hi
  | none =>
    refine (clone0 n cap w).mono fun e w' ⟨he, hS⟩ => ⟨_, he, ?_, hS⟩
    have : l = [] := by
      rcases Nat.eq_zero_or_pos n with h0 | h0
      · exact List.eq_nil_of_length_eq_zero (by rw [h.1]; exact h0)
      · obtain ⟨_, _, e, _⟩ := h.2 h0; cases e
    subst this
    exact OwnS.nil _ _
end QCn
end Go.Proofs.Ytocelepohkbooaa
