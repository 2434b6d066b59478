/- Plain laws of bounds. No condition. Plain laws of bounds: growing twice, joins bracketed, sizes. No condition. -/
import Derived.Test.YtbcjnckejkjfeaaGreatQaa
namespace Go.NP
theorem okN_min {a b : Int} (ha : okN a) (hb : okN b) : okN (min a b) := by unfold okN at *; omega
theorem okN_max {a b : Int} (ha : okN a) (hb : okN b) : okN (max a b) := by unfold okN at *; omega
theorem join_both {a b : Bd} (ha : a.ok) (hb : b.ok) : join a b = ⟨pmin a.lo b.lo, pmax a.hi b.hi⟩ := if_pos ⟨ha, hb⟩
theorem join_isok {a b : Bd} (ha : a.ok) (hb : b.ok) : (join a b).ok := by
  rw [join_both ha hb]
  obtain ⟨⟨a1, a2, a3⟩, ⟨a4, a5, a6⟩, a7, a8, a9⟩ := ha
  obtain ⟨⟨b1, b2, b3⟩, ⟨b4, b5, b6⟩, b7, b8, b9⟩ := hb
  refine ⟨⟨okN_min a1 b1, okN_min a2 b2, okN_min a3 b3⟩, ⟨okN_max a4 b4, okN_max a5 b5, okN_max a6 b6⟩, ?_, ?_, ?_⟩
  · show min _ _ ≤ max _ _; omega
  · show min _ _ ≤ max _ _; omega
  · show min _ _ ≤ max _ _; omega
theorem pmin_comm (p q : Pt) : pmin p q = pmin q p := by unfold pmin; rw [Int.min_comm, Int.min_comm p.y, Int.min_comm p.z]
theorem pmax_comm (p q : Pt) : pmax p q = pmax q p := by unfold pmax; rw [Int.max_comm, Int.max_comm p.y, Int.max_comm p.z]
theorem join_comm (a b : Bd) : join a b = join b a := by
  by_cases h : a.ok ∧ b.ok
  · rw [join_both h.1 h.2, join_both h.2 h.1, pmin_comm, pmax_comm]
  · rw [show join a b = bzero from if_neg h, show join b a = bzero from if_neg fun h' => h ⟨h'.2, h'.1⟩]
theorem join_self {a : Bd} (ha : a.ok) : join a a = a := by
  rw [join_both ha ha]
  unfold pmin pmax
  simp
theorem holds_iff {a b : Bd} : holds a b = true ↔ a.ok ∧ b.ok ∧ a.lo.le b.lo ∧ b.hi.le a.hi := by unfold holds; simp
theorem le_pmin {p q r : Pt} : p.le (pmin q r) ↔ p.le q ∧ p.le r := by
  unfold Pt.le pmin
  simp only
  omega
theorem pmax_le {p q r : Pt} : (pmax q r).le p ↔ q.le p ∧ r.le p := by
  unfold Pt.le pmax
  simp only
  omega
theorem le_refl' (p : Pt) : p.le p := ⟨Int.le_refl _, Int.le_refl _, Int.le_refl _⟩
theorem holds_join_l {a b : Bd} (ha : a.ok) (hb : b.ok) : holds (join a b) a = true := by
  rw [holds_iff]
  refine ⟨join_isok ha hb, ha, ?_, ?_⟩ <;> rw [join_both ha hb]
  · have := (le_pmin (p := pmin a.lo b.lo) (q := a.lo) (r := b.lo)).1 (le_refl' _)
    exact this.1
  · have := (pmax_le (p := pmax a.hi b.hi) (q := a.hi) (r := b.hi)).1 (le_refl' _)
    exact this.1
theorem holds_join_r {a b : Bd} (ha : a.ok) (hb : b.ok) : holds (join a b) b = true := by rw [join_comm]; exact holds_join_l hb ha
theorem holds_of_join {a b c : Bd} (ha : a.ok) (hb : b.ok) : holds c (join a b) = (holds c a && holds c b) := by
  rw [Bool.eq_iff_iff, Bool.and_eq_true, holds_iff, holds_iff, holds_iff]
  have hj := join_isok ha hb
  constructor
  · rintro ⟨h1, h2, h3, h4⟩
    rw [join_both ha hb] at h3 h4
    have h5 := le_pmin.1 h3
    have h6 := pmax_le.1 h4
    exact ⟨⟨h1, ha, h5.1, h6.1⟩, h1, hb, h5.2, h6.2⟩
  · rintro ⟨⟨h1, _, h3, h4⟩, _, _, h5, h6⟩
    refine ⟨h1, hj, ?_, ?_⟩ <;> rw [join_both ha hb]
    · exact le_pmin.2 ⟨h3, h5⟩
    · exact pmax_le.2 ⟨h4, h6⟩
theorem rOk_range (r : Int) : 0 ≤ rOk r ∧ rOk r ≤ 268435456 := by unfold rOk; split <;> omega
theorem okN_down {n r : Int} (h : okN n) (h0 : 0 ≤ r) : okN (down n r) ∧ down n r ≤ n := by unfold okN down at *; omega
theorem okN_up {n r : Int} (h : okN n) (h0 : 0 ≤ r) : okN (up n r) ∧ n ≤ up n r := by unfold okN up at *; omega
theorem holds_grow {a : Bd} (ha : a.ok) (r : Int) : holds (grow a r) a = true := by
  rw [holds_iff]
  obtain ⟨r0, r1⟩ := rOk_range r
  have e : grow a r = ⟨⟨down a.lo.x (rOk r), down a.lo.y (rOk r), down a.lo.z (rOk r)⟩, ⟨up a.hi.x (rOk r), up a.hi.y (rOk r), up a.hi.z (rOk r)⟩⟩ := if_pos ha
  rw [e]
  generalize rOk r = s at *
  obtain ⟨⟨a1, a2, a3⟩, ⟨a4, a5, a6⟩, a7, a8, a9⟩ := id ha
  have d1 := okN_down a1 r0; have d2 := okN_down a2 r0; have d3 := okN_down a3 r0
  have u1 := okN_up a4 r0; have u2 := okN_up a5 r0; have u3 := okN_up a6 r0
  refine ⟨⟨⟨d1.1, d2.1, d3.1⟩, ⟨u1.1, u2.1, u3.1⟩, ?_, ?_, ?_⟩, ha, ⟨d1.2, d2.2, d3.2⟩, ⟨u1.2, u2.2, u3.2⟩⟩
  · exact Int.le_trans d1.2 (Int.le_trans a7 u1.2)
  · exact Int.le_trans d2.2 (Int.le_trans a8 u2.2)
  · exact Int.le_trans d3.2 (Int.le_trans a9 u3.2)
end Go.NP
namespace Go.NP
theorem pmin_assoc (p q r : Pt) : pmin (pmin p q) r = pmin p (pmin q r) := by
  unfold pmin; simp only [Int.min_assoc]
theorem pmax_assoc (p q r : Pt) : pmax (pmax p q) r = pmax p (pmax q r) := by
  unfold pmax; simp only [Int.max_assoc]
theorem join_assoc {a b c : Bd} (ha : a.ok) (hb : b.ok) (hc : c.ok) : join (join a b) c = join a (join b c) := by
  rw [join_both (join_isok ha hb) hc, join_both ha (join_isok hb hc), join_both ha hb, join_both hb hc]
  simp only [pmin_assoc, pmax_assoc]
theorem grow_isok {a : Bd} (ha : a.ok) (r : Int) : (grow a r).ok := (holds_iff.1 (holds_grow ha r)).1
theorem grow_at {a : Bd} (ha : a.ok) {r : Int} (h0 : 0 ≤ r) (h1 : r ≤ 268435456) : grow a r = ⟨⟨down a.lo.x r, down a.lo.y r, down a.lo.z r⟩, ⟨up a.hi.x r, up a.hi.y r, up a.hi.z r⟩⟩ := by
  have e : rOk r = r := if_pos ⟨h0, h1⟩
  show (if a.ok then _ else _) = _
  rw [if_pos ha, e]
theorem down_down {n r s : Int} (hs : 0 ≤ s) : down (down n r) s = down n (r + s) := by unfold down; omega
theorem up_up {n r s : Int} (hs : 0 ≤ s) : up (up n r) s = up n (r + s) := by unfold up; omega
theorem grow_grow {a : Bd} (ha : a.ok) {r s : Int} (hr : 0 ≤ r) (hs : 0 ≤ s) (hrs : r + s ≤ 268435456) : grow (grow a r) s = grow a (r + s) := by
  have hk := grow_isok ha r
  rw [grow_at hk hs (by omega), grow_at ha (by omega) hrs, grow_at ha hr (by omega)]
  simp only [down_down hs, up_up hs]
theorem size_mono {a b : Bd} (h : holds a b = true) : size b ≤ size a := by
  obtain ⟨ha, hb, h1, h2⟩ := holds_iff.1 h
  unfold size
  rw [if_pos ha, if_pos hb]
  unfold Pt.le at *
  omega
theorem size_grow {a : Bd} (ha : a.ok) (r : Int) : size a ≤ size (grow a r) := size_mono (holds_grow ha r)
theorem size_join {a b : Bd} (ha : a.ok) (hb : b.ok) : size b ≤ size (join a b) := size_mono (holds_join_r ha hb)
theorem size_range {a : Bd} : 0 ≤ size a ∧ size a ≤ 1610612736 := by
  unfold size
  split
  · rename_i h
    obtain ⟨⟨⟨x1, x2⟩, ⟨y1, y2⟩, z1, z2⟩, ⟨⟨x3, x4⟩, ⟨y3, y4⟩, z3, z4⟩, h1, h2, h3⟩ := h
    omega
  · omega
end Go.NP
