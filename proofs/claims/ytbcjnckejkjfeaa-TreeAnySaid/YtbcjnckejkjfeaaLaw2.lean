/- Plain laws of bounds: growing twice, joins bracketed, sizes. No condition. -/
import Derived.Test.YtbcjnckejkjfeaaLaw1
namespace Go.NP
theorem pmin_assoc (p q r : Pt) : pmin (pmin p q) r = pmin p (pmin q r) := by
  unfold pmin; simp only [Int.min_assoc]
theorem pmax_assoc (p q r : Pt) : pmax (pmax p q) r = pmax p (pmax q r) := by
  unfold pmax; simp only [Int.max_assoc]
theorem join_assoc {a b c : Bd} (ha : a.ok) (hb : b.ok) (hc : c.ok) : join (join a b) c = join a (join b c) := by
  rw [join_both (join_isok ha hb) hc, join_both ha (join_isok hb hc), join_both ha hb, join_both hb hc]
  simp only [pmin_assoc, pmax_assoc]
theorem grow_isok {a : Bd} (ha : a.ok) (r : Int) : (grow a r).ok := (holds_iff.1 (holds_grow ha r)).1
theorem grow_at {a : Bd} (ha : a.ok) {r : Int} (h0 : 0 ≤ r) (h1 : r ≤ 268435456) : grow a r = ⟨⟨down a.lo.x r, down a.lo.y r, down a.lo.z r⟩, ⟨up a.hi.x r, up a.hi.y r, up a.hi.z r⟩⟩ := by
  have e : rOk r = r := if_pos ⟨h0, h1⟩
  show (if a.ok then _ else _) = _
  rw [if_pos ha, e]
theorem down_down {n r s : Int} (hs : 0 ≤ s) : down (down n r) s = down n (r + s) := by unfold down; omega
theorem up_up {n r s : Int} (hs : 0 ≤ s) : up (up n r) s = up n (r + s) := by unfold up; omega
theorem grow_grow {a : Bd} (ha : a.ok) {r s : Int} (hr : 0 ≤ r) (hs : 0 ≤ s) (hrs : r + s ≤ 268435456) : grow (grow a r) s = grow a (r + s) := by
  have hk := grow_isok ha r
  rw [grow_at hk hs (by omega), grow_at ha (by omega) hrs, grow_at ha hr (by omega)]
  simp only [down_down hs, up_up hs]
theorem size_mono {a b : Bd} (h : holds a b = true) : size b ≤ size a := by
  obtain ⟨ha, hb, h1, h2⟩ := holds_iff.1 h
  unfold size
  rw [if_pos ha, if_pos hb]
  unfold Pt.le at *
  omega
theorem size_grow {a : Bd} (ha : a.ok) (r : Int) : size a ≤ size (grow a r) := size_mono (holds_grow ha r)
theorem size_join {a b : Bd} (ha : a.ok) (hb : b.ok) : size b ≤ size (join a b) := size_mono (holds_join_r ha hb)
theorem size_range {a : Bd} : 0 ≤ size a ∧ size a ≤ 1610612736 := by
  unfold size
  split
  · rename_i h
    obtain ⟨⟨⟨x1, x2⟩, ⟨y1, y2⟩, z1, z2⟩, ⟨⟨x3, x4⟩, ⟨y3, y4⟩, z3, z4⟩, h1, h2, h3⟩ := h
    omega
  · omega
end Go.NP
