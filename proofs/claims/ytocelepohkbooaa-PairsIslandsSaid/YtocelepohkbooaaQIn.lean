/- In: is a number in a list; SameInts. No condition. -/
import Derived.Test.YtocelepohkbooaaQIs
namespace Go.Proofs.Ytocelepohkbooaa
set_option linter.unusedVariables false
set_option linter.unusedSimpArgs false
open Go.RowKit Go.NP
namespace QIn
open QVl
theorem cfIn (args : Array Value) (w1 : World) : (callFunc 20 args).run Try.prog w1 = .ok (.enter 20 args) w1 := enters Try.func20 (by kernel_rfl) (by kernel_rfl) args w1
set_option maxRecDepth 100000 in
set_option maxHeartbeats 2000000 in
theorem inC {A : Option Addr} {n : Nat} (cap : Nat) {l : List Int} (x : Int) (w : World) (h : SlV w A n (l.map (.int .i64))) (hi : n ≤ 1000000) : RetB Try.prog 20 #[.slice A n cap, .int .i64 x] w (.bool (decide (x ∈ l))) := by
  have hln : l.length = n := by have := h.1; simpa using this
  have H := Lib.hid h
  obtain ⟨r, hr⟩ : ∃ r, decide (x ∈ l) = r := ⟨_, rfl⟩
  rw [hr]
  have HR := Lib.hid hr
  clear h hr
  go_enter Try.func20, Try.ntmps20
  go_wp2_with fail
  go_loopw [5] (fun i wr => ∃ k : Nat, k ≤ n ∧ i = .int .i64 (k : Int) ∧ (∀ (j : Nat) y, j < k → l[j]? = some y → y ≠ x) ∧ wr = w) (fun i _ => n - (RowKit.intOf i).toNat)
  case atStart => exact ⟨0, by omega, rfl, fun j y hj => absurd hj (by omega), rfl⟩
  case round =>
    obtain ⟨k, hk, rfl, hno, rfl⟩ := hrel
    by_cases hlt : k < n
    · obtain ⟨y, hy⟩ : ∃ y, l[k]? = some y := ⟨_, List.getElem?_eq_getElem (by omega)⟩
      obtain ⟨b, off, rfl, hb, hat⟩ := H.out.2 (by omega)
      have z0 := hat k (.int .i64 y) (by rw [List.getElem?_map, hy]; rfl)
      have t1 : decide ((k : Int) < (n : Int)) = true := decide_eq_true (by omega)
      have k0 : 0 ≤ (k : Int) ∧ (k : Int) < n := by omega
      have NO := Lib.hid hno; have HY := Lib.hid hy
      clear hno hy hat
      by_cases e : y = x
      · subst e
        have R := Lib.hid (show true = r from by rw [← HR.out]; exact (decide_eq_true (List.mem_of_getElem? HY.out)).symm)
        have e1 : (y == y) = true := by simp
        go_wp2_with fail
        go_ret
        exact ⟨by rw [← R.out]; rfl, Below.refl _ _⟩
      · have e1 : (y == x) = false := by simpa using e
        have N2 := Lib.hid (fun (j : Nat) (z : Int) (hj : j < k + 1) (hz : l[j]? = some z) => (show z ≠ x from by
          rcases Nat.lt_or_ge j k with h | h
          · exact NO.out j z h hz
          · obtain rfl : j = k := by omega
            rw [HY.out] at hz; cases hz; exact e))
        clear e HY NO
        go_wp2_with fail
        exact ⟨⟨k + 1, by omega, by simp, N2.out, trivial⟩, by simp [RowKit.intOf]; omega⟩
    · have t1 : decide ((k : Int) < (n : Int)) = false := decide_eq_false (by omega)
      have R := Lib.hid (show false = r from by
        rw [← HR.out]
        refine (decide_eq_false fun hm => ?_).symm
        obtain ⟨j, hj, e⟩ := List.getElem_of_mem hm
        exact hno j _ (by omega) (List.getElem?_eq_getElem hj) e)
      clear hno
      go_wp2_with fail
      go_ret
      exact ⟨by rw [← R.out]; rfl, Below.refl _ _⟩
end QIn
end Go.Proofs.Ytocelepohkbooaa
