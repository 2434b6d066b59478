/- Islands, plainly: each number that is not fixed and stands in a pair is in one. No condition. -/
import Derived.Test.YtocelepohkbooaaQPl
namespace Go.Proofs.Ytocelepohkbooaa
set_option linter.unusedVariables false
set_option linter.unusedSimpArgs false
open Go.RowKit Go.NP
namespace QIl
open QRt QIp QPl QCk
/-- Trees for each stretch of the pairs. -/
theorem inv_ex {fx : List Int} {l : List Pr} (hok : ∀ p ∈ l, okP p) : ∀ k, k ≤ l.length → ∃ f, QRt.Inv f (rho fx (l.take k)) ∧ ∀ x, (f x).isSome = true ↔ keyB fx (l.take k) x = true
  | 0, _ => ⟨fun _ => none, inv_none, fun x => by simp [keyB]⟩
  | k + 1, hk => by
    obtain ⟨f, hI, hK⟩ := inv_ex hok k (by omega)
    obtain ⟨p, hp⟩ : ∃ p, l[k]? = some p := ⟨_, List.getElem?_eq_getElem (by omega)⟩
    have ok := hok p (List.mem_of_getElem? hp)
    unfold okP at ok
    have h2 := ((hI.stood (fx := fx) (n := p.a) (by omega)).stood (fx := fx) (n := p.b) (by omega))
    have hk2 : ∀ x, (stood fx (stood fx f p.a) p.b x).isSome = true ↔ keyB fx (l.take (k + 1)) x = true := fun x => by
      rw [stood_some, stood_some, keyB_snoc hp, hK x]
      constructor
      · rintro ((h | ⟨rfl, h⟩) | ⟨rfl, h⟩)
        · exact .inl h
        · exact .inr ⟨h, .inl rfl⟩
        · exact .inr ⟨h, .inr rfl⟩
      · rintro (h | ⟨h, rfl | rfl⟩)
        · exact .inl (.inl h)
        · exact .inl (.inr ⟨rfl, h⟩)
        · exact .inr ⟨rfl, h⟩
    rw [rho_snoc hp]
    unfold stepR
    by_cases hc : p.a ∉ fx ∧ p.b ∉ fx
    · rw [if_pos hc]
      have ka := h2.root p.a ((hk2 p.a).2 ((keyB_snoc hp p.a).2 (.inr ⟨hc.1, .inl rfl⟩)))
      have kb := h2.root p.b ((hk2 p.b).2 ((keyB_snoc hp p.b).2 (.inr ⟨hc.2, .inr rfl⟩)))
      refine ⟨_, inv_join h2 ka kb, fun x => ?_⟩
      rw [updI_some _ _ _ x ?_]
      · exact hk2 x
      · rcases (by omega : max (rho fx (l.take k) p.a) (rho fx (l.take k) p.b) = rho fx (l.take k) p.a ∨ max (rho fx (l.take k) p.a) (rho fx (l.take k) p.b) = rho fx (l.take k) p.b) with e | e
        · rw [e, ka]; rfl
        · rw [e, kb]; rfl
    · rw [if_neg hc]; exact ⟨_, h2, hk2⟩
/-- Both of a pair have one root. -/
theorem rho_pair {fx : List Int} {l : List Pr} : ∀ k, ∀ q ∈ l.take k, q.a ∉ fx → q.b ∉ fx → rho fx (l.take k) q.a = rho fx (l.take k) q.b
  | 0, q, hq, _, _ => by simp at hq
  | k + 1, q, hq, ha, hb => by
    rcases Nat.lt_or_ge k l.length with hk | hk
    · obtain ⟨p, hp⟩ : ∃ p, l[k]? = some p := ⟨_, List.getElem?_eq_getElem hk⟩
      rw [rho_snoc hp]
      rw [take_snoc hp] at hq
      unfold stepR
      rcases List.mem_append.1 hq with hq | hq
      · have ih := rho_pair k q hq ha hb
        split
        · unfold merge; rw [ih]
        · exact ih
      · obtain rfl := List.mem_singleton.1 hq
        rw [if_pos ⟨ha, hb⟩]
        unfold merge
        split <;> split <;> omega
    · rw [List.take_of_length_le (by omega)] at hq ⊢
      have ih := rho_pair k q (by rw [List.take_of_length_le (by omega)]; exact hq) ha hb
      rw [List.take_of_length_le (by omega)] at ih
      exact ih
theorem rho_eq {fx : List Int} {l : List Pr} {q : Pr} (hq : q ∈ l) (ha : q.a ∉ fx) (hb : q.b ∉ fx) : rho fx l q.a = rho fx l q.b := by
  have := rho_pair (fx := fx) (l := l) l.length q (by rw [List.take_length]; exact hq) ha hb
  rwa [List.take_length] at this
/-- A key's root is a root. -/
theorem root_mem {fx : List Int} {l : List Pr} (hok : ∀ p ∈ l, okP p) {n : Int} (h : keyB fx l n = true) : rho fx l n ∈ rootsS fx l := by
  obtain ⟨f, hI, hK⟩ := inv_ex (fx := fx) hok l.length (Nat.le_refl _)
  rw [List.take_length] at hI hK
  have hr := hI.root n ((hK n).2 h)
  unfold rootsS
  rw [List.mem_filter, keysS_mem hok]
  exact ⟨(hK _).1 (by rw [hr]; rfl), decide_eq_true (hI.top _ hr)⟩
theorem filter_one {f : Nat → Bool} {i : Nat} : ∀ k, i < k → (∀ j, j < k → (f j = true ↔ j = i)) → (List.range k).filter f = [i]
  | 0, h, _ => by omega
  | k + 1, h, hf => by
    rw [List.range_succ, List.filter_append]
    by_cases e : i = k
    · subst e
      have h1 : (List.range i).filter f = [] := by
        rw [List.filter_eq_nil_iff]
        intro j hj hx
        have hj := List.mem_range.1 hj
        have := (hf j (by omega)).1 hx
        omega
      have h2 : f i = true := (hf i (by omega)).2 rfl
      rw [h1, List.filter_cons, if_pos h2]; rfl
    · have h2 : ¬ f k = true := fun hx => e ((hf k (by omega)).1 hx).symm
      rw [filter_one k (by omega) fun j hj => hf j (by omega), List.filter_cons, if_neg h2]; rfl
theorem roots_lt (fx : List Int) (l : List Pr) : (rootsS fx l).Pairwise (· < ·) := (keysS_lt fx l).filter _
theorem isl_get {fx : List Int} {l : List Pr} {i : Nat} {r : Int} (h : (rootsS fx l)[i]? = some r) : (islS fx l).getD i [] = (keysS fx l).filter fun n => decide (rho fx l n = r) := by
  unfold islS
  rw [List.getD_eq_getElem?_getD, List.getElem?_map, h]; simp only [Option.map_some, Option.getD_some]
theorem mem_isl {fx : List Int} {l : List Pr} (hok : ∀ p ∈ l, okP p) {i : Nat} {r n : Int} (h : (rootsS fx l)[i]? = some r) : n ∈ (islS fx l).getD i [] ↔ keyB fx l n = true ∧ rho fx l n = r := by
  rw [isl_get h, List.mem_filter, keysS_mem hok, decide_eq_true_eq]
theorem isl_len (fx : List Int) (l : List Pr) : (islS fx l).length = (rootsS fx l).length := by unfold islS; rw [List.length_map]
/-- A key's place is its root's. -/
theorem place_key {fx : List Int} {l : List Pr} (hok : ∀ p ∈ l, okP p) {n : Int} (h : keyB fx l n = true) : ∃ i : Nat, (rootsS fx l)[i]? = some (rho fx l n) ∧ place (islS fx l) n = i := by
  obtain ⟨i, hi, e⟩ := List.getElem_of_mem (root_mem hok h)
  have hi2 : (rootsS fx l)[i]? = some (rho fx l n) := by rw [List.getElem?_eq_getElem hi, e]
  refine ⟨i, hi2, ?_⟩
  have : poss (islS fx l) n (islS fx l).length = [i] := by
    unfold poss
    refine filter_one _ (by rw [isl_len]; exact hi) fun j hj => ?_
    rw [isl_len] at hj
    rw [decide_eq_true_eq, mem_isl hok (List.getElem?_eq_getElem hj)]
    constructor
    · rintro ⟨_, h2⟩
      have hp := List.pairwise_iff_getElem.1 (roots_lt fx l)
      rcases Nat.lt_trichotomy i j with h | h | h
      · have := hp i j hi hj h; omega
      · exact h.symm
      · have := hp j i hj hi h; omega
    · rintro rfl
      exact ⟨h, e.symm⟩
  unfold place
  rw [this]
theorem place_no {fx : List Int} {l : List Pr} (hok : ∀ p ∈ l, okP p) {n : Int} (h : ¬ keyB fx l n = true) : place (islS fx l) n = -1 := by
  have : poss (islS fx l) n (islS fx l).length = [] := by
    unfold poss
    rw [List.filter_eq_nil_iff]
    intro j hj
    have hj := List.mem_range.1 hj
    rw [isl_len] at hj
    rw [decide_eq_true_eq, mem_isl hok (List.getElem?_eq_getElem hj)]
    exact fun h2 => h h2.1
  unfold place
  rw [this]
theorem key_of {fx : List Int} {l : List Pr} {p : Pr} (hp : p ∈ l) : (keyB fx l p.a = true ↔ p.a ∉ fx) ∧ (keyB fx l p.b = true ↔ p.b ∉ fx) := by
  rw [keyB_iff, keyB_iff]
  exact ⟨⟨fun h => h.1, fun h => ⟨h, p, hp, .inl rfl⟩⟩, ⟨fun h => h.1, fun h => ⟨h, p, hp, .inr rfl⟩⟩⟩
/-- What the law asks of a pair. -/
theorem pair_ok {fx : List Int} {l : List Pr} (hok : ∀ p ∈ l, okP p) {p : Pr} (hp : p ∈ l) :
    (p.a ∈ fx ∧ place (islS fx l) p.a = -1 ∨ p.a ∉ fx ∧ 0 ≤ place (islS fx l) p.a) ∧ (p.b ∈ fx ∧ place (islS fx l) p.b = -1 ∨ p.b ∉ fx ∧ 0 ≤ place (islS fx l) p.b) ∧ (p.a ∉ fx → p.b ∉ fx → place (islS fx l) p.a = place (islS fx l) p.b) := by
  obtain ⟨ka, kb⟩ := key_of (fx := fx) hp
  refine ⟨?_, ?_, fun ha hb => ?_⟩
  · by_cases h : p.a ∈ fx
    · exact .inl ⟨h, place_no hok fun k => ka.1 k h⟩
    · obtain ⟨i, _, e⟩ := place_key hok (ka.2 h)
      exact .inr ⟨h, by omega⟩
  · by_cases h : p.b ∈ fx
    · exact .inl ⟨h, place_no hok fun k => kb.1 k h⟩
    · obtain ⟨i, _, e⟩ := place_key hok (kb.2 h)
      exact .inr ⟨h, by omega⟩
  · obtain ⟨i, hi, e⟩ := place_key hok (ka.2 ha)
    obtain ⟨j, hj, e2⟩ := place_key hok (kb.2 hb)
    rw [rho_eq hp ha hb] at hi
    have h1 := get_lt hi; have h2 := get_lt hj
    rw [List.getElem?_eq_getElem h1] at hi; rw [List.getElem?_eq_getElem h2] at hj
    have hp := List.pairwise_iff_getElem.1 (roots_lt fx l)
    have hi := Option.some.inj hi
    have hj := Option.some.inj hj
    rw [e, e2]
    rcases Nat.lt_trichotomy i j with h | h | h
    · have := hp i j h1 h2 h; omega
    · rw [h]
    · have := hp j i h2 h1 h; omega
theorem isl_rise {fx : List Int} {l : List Pr} : ∀ g ∈ islS fx l, g.Pairwise (· < ·) := fun g hg => by
  unfold islS at hg
  obtain ⟨r, _, rfl⟩ := List.mem_map.1 hg
  exact (keysS_lt fx l).filter _
theorem isl_short {fx : List Int} {l : List Pr} : (islS fx l).length ≤ 4097 ∧ ∀ g ∈ islS fx l, g.length ≤ 4097 := by
  have hk : (keysS fx l).length ≤ 4097 := Nat.le_trans (List.length_filter_le _ _) (by simp [nums])
  refine ⟨by rw [isl_len]; exact Nat.le_trans (List.length_filter_le _ _) hk, fun g hg => ?_⟩
  unfold islS at hg
  obtain ⟨r, _, rfl⟩ := List.mem_map.1 hg
  exact Nat.le_trans (List.length_filter_le _ _) hk
end QIl
end Go.Proofs.Ytocelepohkbooaa
