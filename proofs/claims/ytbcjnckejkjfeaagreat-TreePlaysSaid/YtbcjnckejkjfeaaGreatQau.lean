/- Ways and bounds, in plain numbers: a way comes to a bound, if and only if a part of it is in it. No condition. -/
import Derived.Test.YtbcjnckejkjfeaaGreatQad
import Derived.Test.YtbcjnckejkjfeaaGreatQat
namespace Go.Proofs.YtbcjnckejkjfeaaGreat
set_option linter.unusedVariables false
open Go.NP
/-- One fraction is not above another one. -/
def leF (p q : Fr) : Prop := p.n * q.d ≤ q.n * p.d
instance (p q : Fr) : Decidable (leF p q) := by unfold leF; infer_instance
theorem above_iff {p q : Fr} : above p q = true ↔ ¬ leF p q := by unfold above leF; simp only [decide_eq_true_eq]; omega
theorem leF_total (p q : Fr) : leF p q ∨ leF q p := by unfold leF; omega
theorem leF_trans {p q r : Fr} (hp : 0 < p.d) (hq : 0 < q.d) (hr : 0 < r.d) (h1 : leF p q) (h2 : leF q r) : leF p r := by
  unfold leF at *
  have e1 : p.n * q.d * r.d ≤ q.n * p.d * r.d := Int.mul_le_mul_of_nonneg_right h1 (by omega)
  have e2 : q.n * r.d * p.d ≤ r.n * q.d * p.d := Int.mul_le_mul_of_nonneg_right h2 (by omega)
  refine Int.le_of_mul_le_mul_right (a := q.d) ?_ hq
  have e3 : p.n * r.d * q.d = p.n * q.d * r.d := by rw [Int.mul_assoc, Int.mul_comm r.d, ← Int.mul_assoc]
  have e4 : r.n * p.d * q.d = r.n * q.d * p.d := by rw [Int.mul_assoc, Int.mul_comm p.d, ← Int.mul_assoc]
  have e5 : q.n * p.d * r.d = q.n * r.d * p.d := by rw [Int.mul_assoc, Int.mul_comm p.d, ← Int.mul_assoc]
  omega
/-- A part n of d of the way from f to t lies from lo to hi. -/
def slab (lo hi f t : Int) (q : Fr) : Prop := lo * q.d ≤ f * q.d + (t - f) * q.n ∧ f * q.d + (t - f) * q.n ≤ hi * q.d
theorem slab_zero {lo hi f t : Int} {q : Fr} (hq : 0 < q.d) (h : t - f = 0) : slab lo hi f t q ↔ lo ≤ f ∧ f ≤ hi := by
  unfold slab
  rw [h, Int.zero_mul, Int.add_zero]
  exact ⟨fun ⟨a, b⟩ => ⟨Int.le_of_mul_le_mul_right a hq, Int.le_of_mul_le_mul_right b hq⟩, fun ⟨a, b⟩ => ⟨Int.mul_le_mul_of_nonneg_right a (by omega), Int.mul_le_mul_of_nonneg_right b (by omega)⟩⟩
theorem slab_iff {lo hi f t : Int} {q : Fr} (h : t - f ≠ 0) : slab lo hi f t q ↔ leF (hfirst lo hi f t) q ∧ leF q (hlast lo hi f t) := by
  unfold slab hfirst hlast leF
  have e1 : ∀ a b : Int, (a - b) * q.d = a * q.d - b * q.d := fun a b => Int.sub_mul ..
  have e2 : q.n * (t - f) = (t - f) * q.n := Int.mul_comm ..
  have e3 : q.n * -(t - f) = -((t - f) * q.n) := by rw [Int.mul_neg, e2]
  split
  · simp only [e1, e3]; omega
  · simp only [e1, e2]; omega
theorem first_d {lo hi f t : Int} (h : t - f ≠ 0) : 0 < (hfirst lo hi f t).d := by unfold hfirst; split <;> simp only <;> omega
theorem last_d {lo hi f t : Int} (h : t - f ≠ 0) : 0 < (hlast lo hi f t).d := by unfold hlast; split <;> simp only <;> omega
def unit (q : Fr) : Prop := 0 < q.d ∧ 0 ≤ q.n ∧ q.n ≤ q.d
def slabs (a : Bd) (f t : Pt) (k : Nat) (q : Fr) : Prop := ∀ j, j < k → slab (ax a.lo j) (ax a.hi j) (ax f j) (ax t j) q
/-- Where the first parts of a way are held against a bound's sides so far. -/
structure StOk (a : Bd) (f t : Pt) (k : Nat) (s : Fr × Fr) : Prop where
  d1 : 0 < s.1.d
  d2 : 0 < s.2.d
  iff : ∀ q : Fr, 0 < q.d → ((0 ≤ q.n ∧ q.n ≤ q.d ∧ slabs a f t k q) ↔ leF s.1 q ∧ leF q s.2)
  from' : s.1 = ⟨0, 1⟩ ∨ ∃ j, j < k ∧ ax t j - ax f j ≠ 0 ∧ s.1 = hfirst (ax a.lo j) (ax a.hi j) (ax f j) (ax t j)
theorem slabs_succ {a : Bd} {f t : Pt} {k : Nat} {q : Fr} : slabs a f t (k + 1) q ↔ slabs a f t k q ∧ slab (ax a.lo k) (ax a.hi k) (ax f k) (ax t k) q :=
  ⟨fun h => ⟨fun j hj => h j (by omega), h k (by omega)⟩, fun ⟨h1, h2⟩ j hj => by
    by_cases e : j = k
    · rw [e]; exact h2
    · exact h1 j (by omega)⟩
theorem hst_ok (a : Bd) (f t : Pt) : ∀ k, match hst a f t k with
    | none => ∀ q : Fr, 0 < q.d → ¬ slabs a f t k q
    | some s => StOk a f t k s
  | 0 => by
    show StOk a f t 0 (⟨0, 1⟩, ⟨1, 1⟩)
    refine ⟨by decide, by decide, fun q hq => ?_, .inl rfl⟩
    unfold leF
    simp only [Int.zero_mul, Int.mul_one, Int.one_mul]
    exact ⟨fun ⟨h1, h2, _⟩ => ⟨h1, h2⟩, fun ⟨h1, h2⟩ => ⟨h1, h2, fun j hj => absurd hj (by omega)⟩⟩
  | k + 1 => by
    have ih := hst_ok a f t k
    show match (hst a f t k).bind (hstep (ax a.lo k) (ax a.hi k) (ax f k) (ax t k)) with | none => _ | some s => _
    cases hs : hst a f t k with
    | none =>
      rw [hs] at ih
      intro q hq h
      exact ih q hq (slabs_succ.1 h).1
    | some s =>
      rw [hs] at ih
      show match hstep (ax a.lo k) (ax a.hi k) (ax f k) (ax t k) s with | none => _ | some s => _
      unfold hstep
      obtain ⟨d1, d2, hiff, hfrom⟩ := ih
      by_cases hd : ax t k - ax f k = 0
      · rw [if_pos hd]
        by_cases hc : ax f k < ax a.lo k ∨ ax a.hi k < ax f k
        · rw [if_pos hc]
          intro q hq h
          have h2 := (slab_zero hq hd).1 (slabs_succ.1 h).2
          omega
        · rw [if_neg hc]
          refine ⟨d1, d2, fun q hq => ?_, ?_⟩
          · rw [← hiff q hq, slabs_succ, slab_zero hq hd]
            exact ⟨fun ⟨h1, h2, h3, _⟩ => ⟨h1, h2, h3⟩, fun ⟨h1, h2, h3⟩ => ⟨h1, h2, h3, by omega, by omega⟩⟩
          · rcases hfrom with h | ⟨j, hj, h⟩
            · exact .inl h
            · exact .inr ⟨j, by omega, h⟩
      · rw [if_neg hd]
        have g1 : 0 < (hfirst (ax a.lo k) (ax a.hi k) (ax f k) (ax t k)).d := first_d hd
        have g2 : 0 < (hlast (ax a.lo k) (ax a.hi k) (ax f k) (ax t k)).d := last_d hd
        have hk := fun q => slab_iff (lo := ax a.lo k) (hi := ax a.hi k) (q := q) hd
        generalize hF : hfirst (ax a.lo k) (ax a.hi k) (ax f k) (ax t k) = F at *
        generalize hlast (ax a.lo k) (ax a.hi k) (ax f k) (ax t k) = L at *
        refine ⟨?_, ?_, fun q hq => ?_, ?_⟩
        · simp only; split <;> assumption
        · simp only; split <;> assumption
        · have m1 : leF (if above F s.1 = true then F else s.1) q ↔ leF s.1 q ∧ leF F q := by
            split
            · rename_i h
              have h' := (leF_total s.1 F).resolve_right (above_iff.1 h)
              exact ⟨fun x => ⟨leF_trans d1 g1 hq h' x, x⟩, fun x => x.2⟩
            · rename_i h
              have h' : leF F s.1 := by
                rcases leF_total F s.1 with h2 | h2
                · exact h2
                · by_cases h3 : leF F s.1
                  · exact h3
                  · exact absurd (above_iff.2 h3) h
              exact ⟨fun x => ⟨x, leF_trans g1 d1 hq h' x⟩, fun x => x.1⟩
          have m2 : leF q (if above s.2 L = true then L else s.2) ↔ leF q s.2 ∧ leF q L := by
            split
            · rename_i h
              have h' := (leF_total L s.2).resolve_right (above_iff.1 h)
              exact ⟨fun x => ⟨leF_trans hq g2 d2 x h', x⟩, fun x => x.2⟩
            · rename_i h
              have h' : leF s.2 L := by
                by_cases h3 : leF s.2 L
                · exact h3
                · exact absurd (above_iff.2 h3) h
              exact ⟨fun x => ⟨x, leF_trans hq d2 g2 x h'⟩, fun x => x.1⟩
          simp only [m1, m2, slabs_succ, hk]
          have := hiff q hq
          constructor
          · rintro ⟨h1, h2, h3, h4, h5⟩
            obtain ⟨h6, h7⟩ := this.1 ⟨h1, h2, h3⟩
            exact ⟨⟨h6, h4⟩, h7, h5⟩
          · rintro ⟨⟨h6, h4⟩, h7, h5⟩
            obtain ⟨h1, h2, h3⟩ := this.2 ⟨h6, h7⟩
            exact ⟨h1, h2, h3, h4, h5⟩
        · simp only
          split
          · exact .inr ⟨k, by omega, hd, hF.symm⟩
          · rcases hfrom with h | ⟨j, hj, h⟩
            · exact .inl h
            · exact .inr ⟨j, by omega, h⟩
theorem leF_refl (p : Fr) : leF p p := Int.le_refl _
theorem hit_iff {a : Bd} {f t : Pt} : hitS a f t = true ↔ a.ok ∧ f.ok ∧ t.ok ∧ ∃ q : Fr, unit q ∧ slabs a f t 3 q := by
  unfold hitS
  by_cases h : a.ok ∧ f.ok ∧ t.ok
  · rw [if_pos h]
    have hh := hst_ok a f t 3
    cases hs : hst a f t 3 with
    | none =>
      rw [hs] at hh
      exact ⟨fun h => (by cases h), fun ⟨_, _, _, q, hq, h⟩ => absurd h (hh q hq.1)⟩
    | some s =>
      rw [hs] at hh
      show (!above s.1 s.2) = true ↔ _
      have hb : (!above s.1 s.2) = true ↔ leF s.1 s.2 := by
        rw [Bool.not_eq_true', ← Bool.not_eq_true, above_iff]
        exact Decidable.not_not
      rw [hb]
      constructor
      · intro hle
        obtain ⟨h1, h2, h3⟩ := (hh.iff s.1 hh.d1).2 ⟨leF_refl _, hle⟩
        exact ⟨h.1, h.2.1, h.2.2, s.1, ⟨hh.d1, h1, h2⟩, h3⟩
      · rintro ⟨_, _, _, q, ⟨h0, h1, h2⟩, h3⟩
        obtain ⟨h4, h5⟩ := (hh.iff q h0).1 ⟨h1, h2, h3⟩
        exact leF_trans hh.d1 h0 hh.d2 h4 h5
  · rw [if_neg h]
    exact ⟨fun h => (by cases h), fun ⟨h1, h2, h3, _⟩ => absurd ⟨h1, h2, h3⟩ h⟩
/-- The first part of a way that is in a bound: its beginning, or where it crosses a side. -/
theorem hit_first {a : Bd} {f t : Pt} (h : hitS a f t = true) : slabs a f t 3 ⟨0, 1⟩ ∨ ∃ j, j < 3 ∧ ax t j - ax f j ≠ 0 ∧ unit (hfirst (ax a.lo j) (ax a.hi j) (ax f j) (ax t j)) ∧ slabs a f t 3 (hfirst (ax a.lo j) (ax a.hi j) (ax f j) (ax t j)) := by
  have h' := hit_iff.1 h
  obtain ⟨_, _, _, q, ⟨h0, h1, h2⟩, h3⟩ := h'
  have hh := hst_ok a f t 3
  cases hs : hst a f t 3 with
  | none =>
    rw [hs] at hh
    exact absurd h3 (hh q h0)
  | some s =>
    rw [hs] at hh
    obtain ⟨h4, h5⟩ := (hh.iff q h0).1 ⟨h1, h2, h3⟩
    obtain ⟨e1, e2, e3⟩ := (hh.iff s.1 hh.d1).2 ⟨leF_refl _, leF_trans hh.d1 h0 hh.d2 h4 h5⟩
    rcases hh.from' with hf | ⟨j, hj, hn, hf⟩
    · rw [hf] at e3; exact .inl e3
    · refine .inr ⟨j, hj, hn, ?_⟩
      rw [← hf]
      exact ⟨⟨hh.d1, e1, e2⟩, e3⟩
theorem slab_rev {lo hi f t : Int} {q : Fr} : slab lo hi t f ⟨q.d - q.n, q.d⟩ ↔ slab lo hi f t q := by
  unfold slab
  have e : t * q.d + (f - t) * (q.d - q.n) = f * q.d + (t - f) * q.n := by
    rw [Int.mul_sub, Int.sub_mul, Int.sub_mul, Int.sub_mul]; omega
  simp only [e]
theorem hit_rev (a : Bd) (f t : Pt) : hitS a t f = hitS a f t := by
  rw [Bool.eq_iff_iff, hit_iff, hit_iff]
  constructor
  · rintro ⟨h1, h2, h3, q, ⟨h4, h5, h6⟩, h7⟩
    exact ⟨h1, h3, h2, ⟨q.d - q.n, q.d⟩, ⟨h4, by simp only; omega, by simp only; omega⟩, fun j hj => slab_rev.2 (h7 j hj)⟩
  · rintro ⟨h1, h2, h3, q, ⟨h4, h5, h6⟩, h7⟩
    exact ⟨h1, h3, h2, ⟨q.d - q.n, q.d⟩, ⟨h4, by simp only; omega, by simp only; omega⟩, fun j hj => slab_rev.2 (h7 j hj)⟩
theorem ax_le {p q : Pt} (h : p.le q) (j : Nat) : ax p j ≤ ax q j := by
  obtain ⟨h1, h2, h3⟩ := h
  unfold ax; split <;> assumption
theorem le_ax {p q : Pt} (h : ∀ j, j < 3 → ax p j ≤ ax q j) : p.le q := ⟨h 0 (by omega), h 1 (by omega), h 2 (by omega)⟩
theorem slabs_zero {a : Bd} {f t : Pt} : slabs a f t 3 ⟨0, 1⟩ ↔ a.lo.le f ∧ f.le a.hi := by
  unfold slabs slab
  simp only [Int.mul_one, Int.mul_zero, Int.add_zero]
  exact ⟨fun h => ⟨le_ax fun j hj => (h j hj).1, le_ax fun j hj => (h j hj).2⟩, fun ⟨h1, h2⟩ j _ => ⟨ax_le h1 j, ax_le h2 j⟩⟩
def one (p : Pt) : Bd := ⟨p, p⟩
theorem one_ok {p : Pt} : (one p).ok ↔ p.ok := ⟨fun h => h.1, fun h => ⟨h, h, Int.le_refl _, Int.le_refl _, Int.le_refl _⟩⟩
theorem hit_begin {a : Bd} {f t : Pt} (ht : t.ok) (h : holds a (one f) = true) : hitS a f t = true := by
  obtain ⟨h1, h2, h3, h4⟩ := holds_iff.1 h
  exact hit_iff.2 ⟨h1, one_ok.1 h2, ht, ⟨0, 1⟩, ⟨by decide, by decide, by decide⟩, slabs_zero.2 ⟨h3, h4⟩⟩
theorem hit_end {a : Bd} {f t : Pt} (hf : f.ok) (h : holds a (one t) = true) : hitS a f t = true := by
  rw [← hit_rev]; exact hit_begin hf h
theorem hit_more {a b : Bd} {f t : Pt} (hb : holds b a = true) (h : hitS a f t = true) : hitS b f t = true := by
  obtain ⟨h1, h2, h3, q, h4, h7⟩ := hit_iff.1 h
  obtain ⟨b1, b2, b3, b4⟩ := holds_iff.1 hb
  refine hit_iff.2 ⟨b1, h2, h3, q, h4, fun j hj => ?_⟩
  have e1 : ax b.lo j * q.d ≤ ax a.lo j * q.d := Int.mul_le_mul_of_nonneg_right (ax_le b3 j) (by have := h4.1; omega)
  have e2 : ax a.hi j * q.d ≤ ax b.hi j * q.d := Int.mul_le_mul_of_nonneg_right (ax_le b4 j) (by have := h4.1; omega)
  obtain ⟨e3, e4⟩ := h7 j hj
  exact ⟨Int.le_trans e1 e3, Int.le_trans e4 e2⟩
theorem hit_grow {a : Bd} {f t : Pt} (r : Int) (h : hitS a f t = true) : hitS (grow a r) f t = true :=
  hit_more (holds_grow (hit_iff.1 h).1 r) h
/-- The ends' own bound. -/
def ends (f t : Pt) : Bd := ⟨pmin f t, pmax f t⟩
theorem ends_ok {f t : Pt} (hf : f.ok) (ht : t.ok) : (ends f t).ok := by
  refine ⟨⟨okN_min hf.1 ht.1, okN_min hf.2.1 ht.2.1, okN_min hf.2.2 ht.2.2⟩, ⟨okN_max hf.1 ht.1, okN_max hf.2.1 ht.2.1, okN_max hf.2.2 ht.2.2⟩, ?_, ?_, ?_⟩
  · show min _ _ ≤ max _ _; omega
  · show min _ _ ≤ max _ _; omega
  · show min _ _ ≤ max _ _; omega
theorem slab_meet {lo hi f t : Int} {q : Fr} (hq : unit q) (hle : lo ≤ hi) (h : slab lo hi f t q) : max lo (min f t) ≤ min hi (max f t) := by
  obtain ⟨h0, h1, h2⟩ := hq
  obtain ⟨h3, h4⟩ := h
  have e : f * q.d + (t - f) * q.n = f * (q.d - q.n) + t * q.n := by rw [Int.mul_sub, Int.sub_mul]; omega
  rw [e] at h3 h4
  have a1 : f * (q.d - q.n) ≤ max f t * (q.d - q.n) := Int.mul_le_mul_of_nonneg_right (by omega) (by omega)
  have a2 : t * q.n ≤ max f t * q.n := Int.mul_le_mul_of_nonneg_right (by omega) (by omega)
  have a3 : min f t * (q.d - q.n) ≤ f * (q.d - q.n) := Int.mul_le_mul_of_nonneg_right (by omega) (by omega)
  have a4 : min f t * q.n ≤ t * q.n := Int.mul_le_mul_of_nonneg_right (by omega) (by omega)
  have a5 : max f t * (q.d - q.n) + max f t * q.n = max f t * q.d := by rw [Int.mul_sub]; omega
  have a6 : min f t * (q.d - q.n) + min f t * q.n = min f t * q.d := by rw [Int.mul_sub]; omega
  have b1 : lo ≤ max f t := Int.le_of_mul_le_mul_right (a := q.d) (by omega) h0
  have b2 : min f t ≤ hi := Int.le_of_mul_le_mul_right (a := q.d) (by omega) h0
  omega
theorem hit_meet {a : Bd} {f t : Pt} (h : hitS a f t = true) : meet a (ends f t) = true := by
  obtain ⟨h1, h2, h3, q, h4, h7⟩ := hit_iff.1 h
  unfold meet
  refine decide_eq_true ⟨h1, ends_ok h2 h3, ?_⟩
  obtain ⟨_, _, l1, l2, l3⟩ := id h1
  exact ⟨slab_meet h4 l1 (h7 0 (by omega)), slab_meet h4 l2 (h7 1 (by omega)), slab_meet h4 l3 (h7 2 (by omega))⟩
theorem okN_in {n : Int} (h : okN n) : down n 0 = n ∧ up n 0 = n := by unfold okN at h; unfold down up; omega
theorem ofS_ends {f t : Pt} (hf : f.ok) (ht : t.ok) : ofS [f, t] 0 = (ends f t, 0) := by
  unfold ofS
  have hh : hull [f, t] ⟨f, f⟩ = ends f t := by
    unfold hull hull hull ends pmin pmax
    simp
  have hg : grow (ends f t) 0 = ends f t := by
    have ho := ends_ok hf ht
    rw [grow_at ho (by omega) (by omega)]
    obtain ⟨⟨h1, h2, h3⟩, ⟨h4, h5, h6⟩, _⟩ := id ho
    rw [(okN_in h1).1, (okN_in h2).1, (okN_in h3).1, (okN_in h4).2, (okN_in h5).2, (okN_in h6).2]
  show (if _ then _ else _) = _
  rw [if_pos ⟨by omega, by omega, fun q hq => by
    rcases List.mem_cons.1 hq with rfl | hq
    · exact hf
    · rw [List.mem_singleton.1 hq]; exact ht⟩, hh, hg]
theorem ofS_no {f t : Pt} (h : ¬ (f.ok ∧ t.ok)) (r : Int) : ofS [f, t] r = (bzero, 7) := by
  unfold ofS
  show (if _ then _ else _) = _
  rw [if_neg fun hh => h ⟨hh.2.2 f (by simp), hh.2.2 t (by simp)⟩]
end Go.Proofs.YtbcjnckejkjfeaaGreat
