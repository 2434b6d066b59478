/- Arguments that are bounds and points, opened. No condition. -/
import Derived.Test.YtegmfmonkaimcaaRows
import Derived.Test.YtegmfmonkaimcaaSpec
import Derived.WalkKit
import Derived.ProofKit
import Derived.OpenShut
import Derived.ShutString
import Derived.ChangeOld
import Derived.Below
import Derived.Deep.Slices
import Derived.Deep.Fields
import Derived.Lib.SmallJoins
namespace Go.Proofs.Ytegmfmonkaimcaa
set_option linter.unusedVariables false
set_option linter.unusedSimpArgs false
open Go.Joins Go.ChangeShapes Go.WideShapes Go.ChangeAt Go.RowKit Go.Deep Go.NP
theorem own : ownKnob Try.prog.godebug = none := by kernel_rfl
theorem laidOut : laidOutB Try.prog = true := by kernel_rfl
theorem cellsPt : Try.prog.cellsOf 24 = 3 := by kernel_rfl
theorem cellsBd : Try.prog.cellsOf 26 = 6 := by kernel_rfl
theorem cellsI : Try.prog.cellsOf 2 = 1 := by kernel_rfl
section
variable {H : Type} {enc : TypeId × Value → H} {w : World} {base : Nat} {spare : Nat → Bool} {held : Bool}
theorem open_pt3 {n : Nat} {c0 c1 c2 : Value} {x : DataW H × List MemPlace} (h : DataW.trod enc Try.prog w base spare held n 24 [c0, c1, c2] = some x) : ∃ p : Pt, c0 = .int .i64 p.x ∧ c1 = .int .i64 p.y ∧ c2 = .int .i64 p.z := by
  obtain ⟨xs, m, _, hx, _, hlen, hg⟩ := DataW.trod_struct Try.underlying24 h
  match xs, hlen with
  | [y0, y1, y2], _ =>
    have g0 : DataW.trod enc Try.prog w base spare held m 2 [c0] = some y0 := by
      have t : DataW.trod enc Try.prog w base spare held m 2 (List.take (Try.prog.cellsOf 2) (List.drop 0 [c0, c1, c2])) = some y0 := hg 0 _ rfl
      rw [cellsI] at t; exact t
    have g1 : DataW.trod enc Try.prog w base spare held m 2 [c1] = some y1 := by
      have t : DataW.trod enc Try.prog w base spare held m 2 (List.take (Try.prog.cellsOf 2) (List.drop 1 [c0, c1, c2])) = some y1 := hg 1 _ rfl
      rw [cellsI] at t; exact t
    have g2 : DataW.trod enc Try.prog w base spare held m 2 [c2] = some y2 := by
      have t : DataW.trod enc Try.prog w base spare held m 2 (List.take (Try.prog.cellsOf 2) (List.drop 2 [c0, c1, c2])) = some y2 := hg 2 _ rfl
      rw [cellsI] at t; exact t
    obtain ⟨a, ha, _⟩ := DataW.trod_int Try.underlying2 g0
    obtain ⟨b, hb, _⟩ := DataW.trod_int Try.underlying2 g1
    obtain ⟨c, hc, _⟩ := DataW.trod_int Try.underlying2 g2
    simp only [List.cons.injEq, and_true] at ha hb hc
    exact ⟨⟨a, b, c⟩, ha, hb, hc⟩
theorem open_bd {r : Reach} {b0 : Nat} {v : Value} {d : DataW H} {p : List MemPlace} (hv : Value.okWide Try.prog w r b0 26 v) (h : DataW.Trod enc Try.prog w base spare held 26 v d p) : ∃ a : Bd, v = .agg #[.int .i64 a.lo.x, .int .i64 a.lo.y, .int .i64 a.lo.z, .int .i64 a.hi.x, .int .i64 a.hi.y, .int .i64 a.hi.z] := by
  obtain ⟨cs, rfl, hsz⟩ := okWide_struct Try.underlying26 hv
  obtain ⟨l⟩ := cs
  match l, hsz.trans cellsBd with
  | [c0, c1, c2, c3, c4, c5], _ =>
    obtain ⟨fuel, hf⟩ := h
    obtain ⟨xs, n, _, hx, _, hlen, hg⟩ := DataW.trod_struct Try.underlying26 hf
    match xs, hlen with
    | [y0, y1], _ =>
      have g0 : DataW.trod enc Try.prog w base spare held n 24 [c0, c1, c2] = some y0 := by
        have t : DataW.trod enc Try.prog w base spare held n 24 (List.take (Try.prog.cellsOf 24) (List.drop 0 [c0, c1, c2, c3, c4, c5])) = some y0 := hg 0 _ rfl
        rw [cellsPt] at t; exact t
      have g1 : DataW.trod enc Try.prog w base spare held n 24 [c3, c4, c5] = some y1 := by
        have t : DataW.trod enc Try.prog w base spare held n 24 (List.take (Try.prog.cellsOf 24) (List.drop 3 [c0, c1, c2, c3, c4, c5])) = some y1 := hg 1 _ rfl
        rw [cellsPt] at t; exact t
      obtain ⟨lo, rfl, rfl, rfl⟩ := open_pt3 g0
      obtain ⟨hi, rfl, rfl, rfl⟩ := open_pt3 g1
      exact ⟨⟨lo, hi⟩, rfl⟩
theorem open_pt {r : Reach} {b0 : Nat} {v : Value} {d : DataW H} {p : List MemPlace} (hv : Value.okWide Try.prog w r b0 24 v) (h : DataW.Trod enc Try.prog w base spare held 24 v d p) : ∃ a : Pt, v = .agg #[.int .i64 a.x, .int .i64 a.y, .int .i64 a.z] := by
  obtain ⟨cs, rfl, hsz⟩ := okWide_struct Try.underlying24 hv
  obtain ⟨l⟩ := cs
  match l, hsz.trans cellsPt with
  | [c0, c1, c2], _ =>
    obtain ⟨fuel, hf⟩ := h
    obtain ⟨p, rfl, rfl, rfl⟩ := open_pt3 (by simpa [Value.cells] using hf)
    exact ⟨p, rfl⟩
end
end Go.Proofs.Ytegmfmonkaimcaa
