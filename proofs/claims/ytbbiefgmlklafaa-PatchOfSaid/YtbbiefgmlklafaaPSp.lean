/- Spots: a less b. No condition. -/
import Derived.Test.YtbbiefgmlklafaaGCr
import Derived.IntWalk
namespace Go.Proofs.Ytbbiefgmlklafaa
set_option linter.unusedVariables false
set_option linter.unusedSimpArgs false
open Go.RowKit Go.NP
/-- A spot. -/
structure Spo where
  side : Int
  at_ : Int
  p : Pt
namespace PSp
def psub (a b : Pt) : Pt := ⟨a.x - b.x, a.y - b.y, a.z - b.z⟩
theorem psub_sP {a b : Pt} (ha : a.ok) (hb : b.ok) : GCr.sP (psub a b) := by
  obtain ⟨⟨a1, a2⟩, ⟨a3, a4⟩, a5, a6⟩ := ha
  obtain ⟨⟨b1, b2⟩, ⟨b3, b4⟩, b5, b6⟩ := hb
  refine ⟨?_, ?_, ?_⟩ <;> unfold GCr.c30 psub <;> simp only <;> omega
set_option maxHeartbeats 2000000 in
theorem lessC (a b : Spo) (ha : a.p.ok) (hb : b.p.ok) (w : World) : RetB Try.prog 33 #[.agg #[.int .i64 a.side, .int .i64 a.at_, .int .i64 a.p.x, .int .i64 a.p.y, .int .i64 a.p.z], .agg #[.int .i64 b.side, .int .i64 b.at_, .int .i64 b.p.x, .int .i64 b.p.y, .int .i64 b.p.z]] w (.agg #[.int .i64 (psub a.p b.p).x, .int .i64 (psub a.p b.p).y, .int .i64 (psub a.p b.p).z]) := by
  obtain ⟨⟨a1, a2⟩, ⟨a3, a4⟩, a5, a6⟩ := ha
  obtain ⟨⟨b1, b2⟩, ⟨b3, b4⟩, b5, b6⟩ := hb
  unfold RetB
  go_enter Try.func33, Try.ntmps33
  go_wp2
  refine bodyPost_ret (v := .agg #[.int .i64 (psub a.p b.p).x, .int .i64 (psub a.p b.p).y, .int .i64 (psub a.p b.p).z]) (by simp [results, Try.results33, go_sem]; exact ⟨rfl, rfl, rfl⟩) rfl ⟨rfl, ?_⟩
  exact ((((Below.refl _ _).alloc (Nat.le_refl _) _).alloc (by simp) _).alloc (by simp; omega) _)
end PSp
end Go.Proofs.Ytbbiefgmlklafaa
