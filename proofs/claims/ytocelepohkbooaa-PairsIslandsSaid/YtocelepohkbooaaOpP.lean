/- Arguments that are slices of pairs and of integers, opened. No condition. -/
import Derived.Test.YtocelepohkbooaaRows
import Derived.Test.YtocelepohkbooaaQDg
import Derived.Test.YtocelepohkbooaaQVl
import Derived.Test.YtocelepohkbooaaQVm
import Derived.WalkKit
import Derived.ProofKit
import Derived.OpenShut
import Derived.ShutString
import Derived.ChangeOld
import Derived.Below
import Derived.Deep.Slices
import Derived.Deep.Fields
import Derived.Lib.SmallJoins
namespace Go.Proofs.Ytocelepohkbooaa
set_option linter.unusedVariables false
set_option linter.unusedSimpArgs false
open Go.Joins Go.ChangeShapes Go.WideShapes Go.ChangeAt Go.RowKit Go.Deep Go.NP
theorem own : ownKnob Try.prog.godebug = none := by kernel_rfl
theorem laidOut : laidOutB Try.prog = true := by kernel_rfl
namespace OpP
theorem cellsPa : Try.prog.cellsOf 39 = 2 := by kernel_rfl
theorem cellsN : Try.prog.cellsOf 3 = 1 := by kernel_rfl
instance : Inhabited Pr := ⟨⟨0, 0⟩⟩
theorem spot_none {w : World} {a : Addr} {v : Value} (h : w.cell? a = some v) : a.spot = none ∧ a.block < w.heap.size := by
  unfold World.cell? at h
  split at h
  · rename_i hb
    split at h
    · cases h
    · rename_i hs
      refine ⟨by simpa using hs, ?_⟩
      rcases Nat.lt_or_ge a.block w.heap.size with h' | h'
      · exact h'
      · rw [Array.getElem?_eq_none h'] at hb; cases hb
  · cases h
theorem add_plain (b off n : Nat) : (⟨b, off, none⟩ : Addr).add n = ⟨b, off + n, none⟩ := by
  unfold Addr.add
  by_cases h : n = 0
  · simp [h]
  · simp [h]
section
variable {H : Type} {enc : TypeId × Value → H} {w : World} {base : Nat} {spare : Nat → Bool} {held : Bool}
theorem open_pr2 {n : Nat} {c0 c1 : Value} {x : DataW H × List MemPlace} (h : DataW.trod enc Try.prog w base spare held n 39 [c0, c1] = some x) : ∃ p : Pr, c0 = .int .i64 p.a ∧ c1 = .int .i64 p.b := by
  obtain ⟨xs, m, _, hx, _, hlen, hg⟩ := DataW.trod_struct Try.underlying39 h
  match xs, hlen with
  | [y0, y1], _ =>
    have g0 : DataW.trod enc Try.prog w base spare held m 3 [c0] = some y0 := by
      have t : DataW.trod enc Try.prog w base spare held m 3 (List.take (Try.prog.cellsOf 3) (List.drop 0 [c0, c1])) = some y0 := hg 0 _ rfl
      rw [cellsN] at t; exact t
    have g1 : DataW.trod enc Try.prog w base spare held m 3 [c1] = some y1 := by
      have t : DataW.trod enc Try.prog w base spare held m 3 (List.take (Try.prog.cellsOf 3) (List.drop 1 [c0, c1])) = some y1 := hg 1 _ rfl
      rw [cellsN] at t; exact t
    obtain ⟨a, ha, _⟩ := DataW.trod_int Try.underlying3 g0
    obtain ⟨b, hb, _⟩ := DataW.trod_int Try.underlying3 g1
    simp only [List.cons.injEq, and_true] at ha hb
    exact ⟨⟨a, b⟩, ha, hb⟩
set_option maxRecDepth 100000 in
theorem open_prs {r : Reach} {b0 : Nat} {v : Value} {d : DataW H} {p : List MemPlace} (hv : Value.okWide Try.prog w r b0 22 v) (h : DataW.Trod enc Try.prog w base spare held 22 v d p) :
    ∃ A n cap l, v = .slice A n cap ∧ QDg.SlD w A n cap l := by
  obtain ⟨A, n, cap, rfl⟩ := okWide_slice Try.underlying22 hv
  obtain ⟨fuel, hf⟩ := h
  have hf : DataW.trod enc Try.prog w base spare held fuel 22 [.slice A n cap] = some (d, p) := hf
  rcases open_slice Try.underlying22 hf with ⟨h0, _⟩ | ⟨a, len, cap', m, nn, D, Pl, hcs, hb, hl, hm, hmm, hx, hi⟩
  · simp only [List.cons.injEq, Value.slice.injEq, and_true] at h0
    obtain ⟨rfl, rfl, rfl⟩ := h0
    exact ⟨none, 0, 0, [], rfl, ⟨rfl, fun h => absurd h (by omega)⟩, fun _ => rfl, Nat.le_refl _⟩
  · simp only [List.cons.injEq, Value.slice.injEq, and_true] at hcs
    obtain ⟨rfl, rfl, rfl⟩ := hcs
    have hmn : n ≤ m := by rw [hmm]; split <;> omega
    have key : ∀ i, i < n → ∃ s : Pr, ∀ j v, (prv s)[j]? = some v → w.cell? ((a.add (i * 2)).add j) = some v := by
      intro i hin
      obtain ⟨cs', hc, ht'⟩ := hi i (by omega)
      rw [cellsPa] at hc
      obtain ⟨_, hcl, hat⟩ := World.cells?_some hc
      match cs', hcl with
      | [c0, c1], _ =>
        obtain ⟨s, rfl, rfl⟩ := open_pr2 ht'
        refine ⟨s, fun j v hv => ?_⟩
        have hj : j < 2 := get_lt hv
        have := hat j hj
        rw [this]
        exact hv
    obtain ⟨f, hf'⟩ := choose_lt key
    refine ⟨some a, n, cap, (List.range n).map f, rfl, ⟨by simp, fun hn => ?_⟩, fun e => (by cases e), hl⟩
    obtain ⟨hs, hblk⟩ := spot_none (hf' 0 hn 0 _ rfl)
    obtain ⟨b, off, sp⟩ := a
    have hs : sp = none := by
      have : (Addr.mk b off sp).spot = none := by simpa [Addr.add] using hs
      exact this
    subst hs
    refine ⟨b, off, rfl, by simpa [add_plain] using hblk, fun k x hk j v hv => ?_⟩
    have hkn : k < n := by
      rcases Nat.lt_or_ge k n with h' | h'
      · exact h'
      · rw [List.getElem?_eq_none (by simp; exact h')] at hk; cases hk
    rw [List.getElem?_map, List.getElem?_range hkn] at hk
    simp only [Option.map_some, Option.some.injEq] at hk
    subst hk
    have := hf' k hkn j v hv
    simp only [add_plain] at this
    exact this
set_option maxRecDepth 100000 in
theorem open_is {r : Reach} {b0 : Nat} {v : Value} {d : DataW H} {p : List MemPlace} (hv : Value.okWide Try.prog w r b0 32 v) (h : DataW.Trod enc Try.prog w base spare held 32 v d p) :
    ∃ A n cap, ∃ l : List Int, v = .slice A n cap ∧ QVl.SlV w A n (l.map (.int .i64)) ∧ ∀ x ∈ l, QVm.wfI x := by
  obtain ⟨A, n, cap, rfl⟩ := okWide_slice Try.underlying32 hv
  obtain ⟨fuel, hf⟩ := h
  have hf : DataW.trod enc Try.prog w base spare held fuel 32 [.slice A n cap] = some (d, p) := hf
  rcases open_slice Try.underlying32 hf with ⟨h0, _⟩ | ⟨a, len, cap', m, nn, D, Pl, hcs, hb, hl, hm, hmm, hx, hi⟩
  · simp only [List.cons.injEq, Value.slice.injEq, and_true] at h0
    obtain ⟨rfl, rfl, rfl⟩ := h0
    exact ⟨none, 0, 0, [], rfl, ⟨rfl, fun h => absurd h (by omega)⟩, fun x h => (by cases h)⟩
  · simp only [List.cons.injEq, Value.slice.injEq, and_true] at hcs
    obtain ⟨rfl, rfl, rfl⟩ := hcs
    have hmn : n ≤ m := by rw [hmm]; split <;> omega
    have key : ∀ i, i < n → ∃ s : Int, w.cell? (a.add i) = some (.int .i64 s) ∧ QVm.wfI s := by
      intro i hin
      obtain ⟨cs', hc, ht'⟩ := hi i (by omega)
      rw [cellsN] at hc
      obtain ⟨_, hcl, hat⟩ := World.cells?_some hc
      match cs', hcl with
      | [c0], _ =>
        obtain ⟨s, hs, _, hw⟩ := DataW.trod_int Try.underlying3 ht'
        simp only [List.cons.injEq, and_true] at hs
        subst hs
        have := hat 0 (by omega)
        rw [Nat.mul_one] at this
        have e : (a.add i).add 0 = a.add i := by unfold Addr.add; simp
        rw [e] at this
        exact ⟨s, this, hw⟩
    obtain ⟨f, hf'⟩ := choose_lt key
    refine ⟨some a, n, cap, (List.range n).map f, rfl, ⟨by simp, fun hn => ?_⟩, fun x hx => ?_⟩
    · obtain ⟨hs, hblk⟩ := spot_none (hf' 0 hn).1
      obtain ⟨b, off, sp⟩ := a
      have hs : sp = none := by
        have : (Addr.mk b off sp).spot = none := by simpa [Addr.add] using hs
        exact this
      subst hs
      refine ⟨b, off, rfl, by simpa [add_plain] using hblk, fun k v hk => ?_⟩
      have hkn : k < n := by
        rcases Nat.lt_or_ge k n with h' | h'
        · exact h'
        · rw [List.getElem?_eq_none (by simp; exact h')] at hk; cases hk
      rw [List.getElem?_map, List.getElem?_map, List.getElem?_range hkn] at hk
      simp only [Option.map_some, Option.some.injEq] at hk
      subst hk
      have := (hf' k hkn).1
      simp only [add_plain] at this
      exact this
    · obtain ⟨k, hk, rfl⟩ := List.mem_map.1 hx
      exact (hf' k (List.mem_range.1 hk)).2
end
end OpP
end Go.Proofs.Ytocelepohkbooaa
