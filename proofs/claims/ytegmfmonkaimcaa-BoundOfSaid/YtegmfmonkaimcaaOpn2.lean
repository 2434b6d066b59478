/- An argument that is a slice of points, opened. No condition. -/
import Derived.Test.YtegmfmonkaimcaaOpn
import Derived.Test.YtegmfmonkaimcaaRef4
namespace Go.Proofs.Ytegmfmonkaimcaa
set_option linter.unusedVariables false
set_option linter.unusedSimpArgs false
open Go.Joins Go.ChangeShapes Go.WideShapes Go.ChangeAt Go.RowKit Go.Deep Go.NP
instance : Inhabited Pt := ⟨⟨0, 0, 0⟩⟩
theorem spot_none {w : World} {a : Addr} {v : Value} (h : w.cell? a = some v) : a.spot = none ∧ a.block < w.heap.size := by
  unfold World.cell? at h
  split at h
  · rename_i hb
    split at h
    · cases h
    · rename_i hs
      refine ⟨by simpa using hs, ?_⟩
      rcases Nat.lt_or_ge a.block w.heap.size with h' | h'
      · exact h'
      · rw [Array.getElem?_eq_none h'] at hb; cases hb
  · cases h
theorem add_plain (b off n : Nat) : (⟨b, off, none⟩ : Addr).add n = ⟨b, off + n, none⟩ := by
  unfold Addr.add
  by_cases h : n = 0
  · simp [h]
  · simp [h]
section
variable {H : Type} {enc : TypeId × Value → H} {w : World} {base : Nat} {spare : Nat → Bool} {held : Bool}
theorem open_ps {r : Reach} {b0 : Nat} {v : Value} {d : DataW H} {p : List MemPlace} (hv : Value.okWide Try.prog w r b0 22 v) (h : DataW.Trod enc Try.prog w base spare held 22 v d p) :
    ∃ A n cap l, v = .slice A n cap ∧ Ref4.SlP w A n l := by
  obtain ⟨A, n, cap, rfl⟩ := okWide_slice Try.underlying22 hv
  obtain ⟨fuel, hf⟩ := h
  have hf : DataW.trod enc Try.prog w base spare held fuel 22 [.slice A n cap] = some (d, p) := by simpa [Value.cells] using hf
  rcases open_slice Try.underlying22 hf with ⟨h0, _⟩ | ⟨a, len, cap', m, nn, D, Pl, hcs, hb, hl, hm, hmm, hx, hi⟩
  · simp only [List.cons.injEq, Value.slice.injEq, and_true] at h0
    obtain ⟨rfl, rfl, rfl⟩ := h0
    exact ⟨none, 0, 0, [], rfl, rfl, fun h => absurd h (by omega)⟩
  · simp only [List.cons.injEq, Value.slice.injEq, and_true] at hcs
    obtain ⟨rfl, rfl, rfl⟩ := hcs
    have hmn : n ≤ m := by rw [hmm]; split <;> omega
    have key : ∀ i, i < n → ∃ q : Pt, w.cell? ((a.add (i * 3)).add 0) = some (.int .i64 q.x) ∧ w.cell? ((a.add (i * 3)).add 1) = some (.int .i64 q.y) ∧ w.cell? ((a.add (i * 3)).add 2) = some (.int .i64 q.z) := by
      intro i hin
      obtain ⟨cs', hc, ht'⟩ := hi i (by omega)
      rw [cellsPt] at hc
      obtain ⟨_, hcl, hat⟩ := World.cells?_some hc
      match cs', hcl with
      | [c0, c1, c2], _ =>
        obtain ⟨q, rfl, rfl, rfl⟩ := open_pt3 ht'
        exact ⟨q, hat 0 (by omega), hat 1 (by omega), hat 2 (by omega)⟩
    obtain ⟨f, hf'⟩ := choose_lt key
    refine ⟨some a, n, cap, (List.range n).map f, rfl, by simp, fun hn => ?_⟩
    obtain ⟨hs, hblk⟩ := spot_none (hf' 0 hn).1
    obtain ⟨b, off, sp⟩ := a
    have hs : sp = none := by
      have : (Addr.mk b off sp).spot = none := by simpa [Addr.add] using hs
      exact this
    subst hs
    refine ⟨b, off, rfl, by simpa [add_plain] using hblk, fun k x hk => ?_⟩
    have hkn : k < n := by
      rcases Nat.lt_or_ge k n with h' | h'
      · exact h'
      · rw [List.getElem?_eq_none (by simp; exact h')] at hk; cases hk
    rw [List.getElem?_map, List.getElem?_range hkn] at hk
    simp only [Option.map_some, Option.some.injEq] at hk
    subst hk
    obtain ⟨h1, h2, h3⟩ := hf' k hkn
    simp only [add_plain] at h1 h2 h3
    exact ⟨h1, h2, h3⟩
end
end Go.Proofs.Ytegmfmonkaimcaa
