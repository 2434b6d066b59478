/- Blocks of pairs: stores, clearing, what is kept: laws. No condition. -/
import Derived.Test.YtocelepohkbooaaQCn
import Derived.Lib.SliceRun
namespace Go.Proofs.Ytocelepohkbooaa
set_option linter.unusedVariables false
set_option linter.unusedSimpArgs false
open Go.RowKit Go.NP Go.Lib
namespace QCp
theorem box_setCells {g : Nat} {T : TypeId} : ∀ (vs : List Value) (o : Nat) (w : World) (L : List Value), Box w g L T → ∃ L', Box (w.setCells g o vs) g L' T ∧ L'.length = L.length ∧ ∀ j, j < o → L'[j]? = L[j]?
  | [], o, w, L, h => ⟨L, h, rfl, fun _ _ => rfl⟩
  | v :: r, o, w, L, h => by
    obtain ⟨L', h1, h2, h3⟩ := box_setCells r (o + 1) _ _ (h.set o v)
    refine ⟨L', h1, by rw [h2, List.length_set], fun j hj => ?_⟩
    rw [h3 j (by omega), List.getElem?_set_ne (by omega)]
theorem below_setCells {B g : Nat} {w0 : World} (hg : B ≤ g) : ∀ (vs : List Value) (o : Nat) (w : World), Below B w0 w → Below B w0 (w.setCells g o vs)
  | [], _, _, h => h
  | v :: r, o, w, h => below_setCells hg r (o + 1) _ (h.setCell hg v)
theorem run_clear2 (w : World) (b o n c : Nat) (hn : 0 < n) (hc : ∀ j, j < n * 2 → (w.cell? ⟨b, o + j, none⟩).isSome = true) (hf : ∀ j, j < n * 2 → w.frozen? ⟨b, o + j, none⟩ = false) :
    ∃ vs, ∀ ty, (Builtin.clear_ #[22] ty #[.slice (some ⟨b, o, none⟩) n c]).run Try.prog w = .ok (.tuple #[]) (w.setCells b o vs) := by
  have hv : ∀ w, (zeroValue 39).run Try.prog w = .ok (.agg #[.int .i64 0, .int .i64 0]) w := fun w => by
    obtain ⟨i0, hi0, hz0, _, _⟩ := info_parts infoPa
    simp [zeroValue, typeInfo, hi0, hz0]
  have hlen : (Builtin.zeroCells (Value.agg #[.int .i64 0, .int .i64 0]).cells n).toList.length = n * 2 := by simp [Builtin.zeroCells, Value.cells]
  have hone : ∀ v ∈ (Builtin.zeroCells (Value.agg #[.int .i64 0, .int .i64 0]).cells n).toList, v.oneCell' = true := by
    intro v hv'
    simp only [Builtin.zeroCells, Value.cells] at hv'
    simp at hv'
    obtain ⟨i, _, rfl⟩ := hv'
    rcases (by omega : i % 2 = 0 ∨ i % 2 = 1) with e | e <;> rw [e] <;> rfl
  have hst := run_storeCells_cells (P := Try.prog) b o (Builtin.zeroCells (Value.agg #[.int .i64 0, .int .i64 0]).cells n).toList 0 w (by rw [hlen]; simpa using hc) (by rw [hlen]; simpa using hf) hone
  simp only [Nat.add_zero] at hst
  obtain ⟨m, rfl⟩ : ∃ m, n = m + 1 := ⟨n - 1, by omega⟩
  exact ⟨(Builtin.zeroCells (Value.agg #[.int .i64 0, .int .i64 0]).cells (m + 1)).toList, fun ty => by simp [Builtin.clear_, run_underlying Try.underlying22, hv, hst]⟩
end QCp
end Go.Proofs.Ytocelepohkbooaa
