/- Spots moved alike: what a patch is then: plain laws. No condition. -/
import Derived.Test.YtbbiefgmlklafaaPSo
namespace Go.Proofs.Ytbbiefgmlklafaa
set_option linter.unusedVariables false
set_option linter.unusedSimpArgs false
open Go.RowKit Go.NP
namespace PMp
open PGr PCk PCl PPl PSo
def padd (p n : Pt) : Pt := ⟨p.x + n.x, p.y + n.y, p.z + n.z⟩
def mv (n : Pt) (s : Spo) : Spo := ⟨s.side, s.at_, padd s.p n⟩
def smallN (x : Int) : Prop := -67108864 ≤ x ∧ x ≤ 67108864
def small (s : Spo) : Prop := smallN s.p.x ∧ smallN s.p.y ∧ smallN s.p.z
/-- The way by which all are moved. -/
def by8 (p : Pt) : Pt := ⟨p.x.tdiv 8, p.y.tdiv 8, p.z.tdiv 8⟩
def tinyN (x : Int) : Prop := -33554432 ≤ x ∧ x ≤ 33554432
def tiny (p : Pt) : Prop := tinyN p.x ∧ tinyN p.y ∧ tinyN p.z
theorem eighthN {x : Int} (h : okN x) : tinyN (x.tdiv 8) := by
  obtain ⟨h1, h2⟩ := h
  unfold tinyN
  rcases Int.le_total 0 x with h | h
  · rw [Int.tdiv_eq_ediv_of_nonneg h]; omega
  · have e : x = -(-x) := by omega
    rw [e, Int.neg_tdiv, Int.tdiv_eq_ediv_of_nonneg (by omega)]; omega
theorem by8_tiny {p : Pt} (h : p.ok) : tiny (by8 p) := ⟨eighthN h.1, eighthN h.2.1, eighthN h.2.2⟩
theorem small_ok {s : Spo} (h : small s) : s.p.ok := by
  obtain ⟨⟨a1, a2⟩, ⟨b1, b2⟩, c1, c2⟩ := h
  refine ⟨⟨?_, ?_⟩, ⟨?_, ?_⟩, ?_, ?_⟩ <;> omega
theorem moved_ok {s : Spo} {n : Pt} (h : small s) (hn : tiny n) : (mv n s).p.ok := by
  obtain ⟨⟨a1, a2⟩, ⟨b1, b2⟩, c1, c2⟩ := h
  obtain ⟨⟨d1, d2⟩, ⟨e1, e2⟩, f1, f2⟩ := hn
  refine ⟨⟨?_, ?_⟩, ⟨?_, ?_⟩, ?_, ?_⟩ <;> simp only [mv, padd] <;> omega
theorem psub_moved (a b n : Pt) : PSp.psub (padd a n) (padd b n) = PSp.psub a b := by
  unfold PSp.psub padd
  congr 1 <;> (simp only; omega)
theorem far_moved (a b : Spo) (n : Pt) : GDot.far (mv n a).p (mv n b).p = GDot.far a.p b.p := by
  unfold GDot.far mv; rw [psub_moved]
theorem area_moved (a b c : Spo) (n : Pt) : GAr.area (mv n a).p (mv n b).p (mv n c).p = GAr.area a.p b.p c.p := by
  unfold GAr.area mv; simp only [psub_moved]
theorem nth_moved {l : List Spo} {n : Pt} {k : Nat} (h : k < l.length) : nth (l.map (mv n)) k = mv n (nth l k) := by
  have h1 := nth_get h
  have h2 := nth_get (l := l.map (mv n)) (k := k) (by simpa using h)
  rw [List.getElem?_map, h1] at h2
  exact (Option.some.inj h2).symm
theorem best_moved {f g : Spo → Int} {n : Pt} {l : List Spo} (h : ∀ s ∈ l, g (mv n s) = f s) : best g (l.map (mv n)) = best f l := by
  have : ∀ (l : List Spo) (b : Best), (∀ s ∈ l, g (mv n s) = f s) → (l.map (mv n)).foldl (PGr.step g) b = l.foldl (PGr.step f) b := by
    intro l
    induction l with
    | nil => intro b _; rfl
    | cons x r ih =>
      intro b h
      rw [List.map_cons, List.foldl_cons, List.foldl_cons]
      have hx : PGr.step g b (mv n x) = PGr.step f b x := by unfold PGr.step; rw [h x (List.mem_cons_self ..)]
      rw [hx]
      exact ih _ fun s hs => h s (List.mem_cons_of_mem _ hs)
  exact this l _ h
theorem at1_moved {l : List Spo} {n : Pt} (h : l ≠ []) : at1 (l.map (mv n)) = at1 l := by
  have hp : 0 < l.length := List.length_pos_iff.2 h
  unfold at1
  rw [best_moved (f := fA l)]
  intro s _
  unfold fA; rw [nth_moved hp, far_moved]
theorem at2_moved {l : List Spo} {n : Pt} (h : l ≠ []) : at2 (l.map (mv n)) = at2 l := by
  have hp : 0 < l.length := List.length_pos_iff.2 h
  obtain ⟨h1, h2, h3⟩ := at_lt h
  unfold at2
  rw [best_moved (f := fB l)]
  intro s _
  unfold fB; rw [at1_moved h, nth_moved hp, nth_moved h1, area_moved]
theorem at3_moved {l : List Spo} {n : Pt} (h : l ≠ []) : at3 (l.map (mv n)) = at3 l := by
  have hp : 0 < l.length := List.length_pos_iff.2 h
  obtain ⟨h1, h2, h3⟩ := at_lt h
  unfold at3
  rw [best_moved (f := fC l)]
  intro s _
  unfold fC; rw [at1_moved h, at2_moved h, nth_moved hp, nth_moved h1, nth_moved h2, far_moved, far_moved, far_moved]
theorem places_moved {l : List Spo} {n : Pt} (h : l ≠ []) : places (l.map (mv n)) = places l := by
  unfold places four; rw [at1_moved h, at2_moved h, at3_moved h]
theorem named_moved (l : List Spo) (n : Pt) : named (l.map (mv n)) ↔ named l := by
  unfold named
  have e : (l.map (mv n)).map nmS = l.map nmS := by rw [List.map_map]; rfl
  rw [e]
  constructor
  · rintro ⟨h1, h2⟩
    exact ⟨fun s hs => h1 (mv n s) (List.mem_map_of_mem hs), h2⟩
  · rintro ⟨h1, h2⟩
    refine ⟨fun s hs => ?_, h2⟩
    obtain ⟨t, ht, rfl⟩ := List.mem_map.1 hs
    exact h1 t ht
theorem check_moved {l : List Spo} {n : Pt} (h : ∀ s ∈ l, small s) (hn : tiny n) : checkS (l.map (mv n)) = checkS l := by
  unfold checkS
  rw [List.length_map]
  have e1 : (∀ s ∈ l.map (mv n), s.p.ok) := fun s hs => by
    obtain ⟨t, ht, rfl⟩ := List.mem_map.1 hs
    exact moved_ok (h t ht) hn
  have e2 : ∀ s ∈ l, s.p.ok := fun s hs => small_ok (h s hs)
  rw [if_pos e1, if_pos e2]
  by_cases c : named l
  · rw [if_pos c, if_pos ((named_moved l n).2 c)]
  · rw [if_neg c, if_neg fun c' => c ((named_moved l n).1 c')]
theorem patch_moved {l : List Spo} {n : Pt} (h : ∀ s ∈ l, small s) (hn : tiny n) : patchS (l.map (mv n)) = (patchS l).map (mv n) := by
  unfold patchS
  rw [check_moved h hn, List.length_map]
  split
  · split
    · rfl
    · have hl : l ≠ [] := fun e => by subst e; simp at *
      obtain ⟨h1, h2, h3⟩ := at_lt hl
      have hp : 0 < l.length := List.length_pos_iff.2 hl
      rw [places_moved hl, List.map_map]
      refine List.map_congr_left fun i hi => ?_
      have := places_mem hi
      exact nth_moved (by omega)
  · rfl
end PMp
end Go.Proofs.Ytbbiefgmlklafaa
