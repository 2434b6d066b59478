/- What a patch is: some of the spots, in order: plain laws. No condition. -/
import Derived.Test.YtbbiefgmlklafaaPSq
namespace Go.Proofs.Ytbbiefgmlklafaa
set_option linter.unusedVariables false
set_option linter.unusedSimpArgs false
open Go.RowKit Go.NP
namespace PSo
open PGr PCk PCl PPl
theorem compact4 (a b c d : Int) : Lib.compact [a, b, c, d] = [a] ++ (if b = a then [] else [b]) ++ (if c = b then [] else [c]) ++ (if d = c then [] else [d]) := by
  unfold Lib.compact
  rw [show ([a, b, c, d] : List Int).length = 3 + 1 from rfl, Lib.compactUpTo_succ, Lib.compactUpTo_succ, Lib.compactUpTo_succ, Lib.compactUpTo_succ]
  simp [Lib.compactUpTo, Lib.keeps]
theorem compact4_lt {a b c d : Int} (h1 : a ≤ b) (h2 : b ≤ c) (h3 : c ≤ d) : (Lib.compact [a, b, c, d]).Pairwise (· < ·) ∧ ∀ x, x ∈ Lib.compact [a, b, c, d] ↔ x = a ∨ x = b ∨ x = c ∨ x = d := by
  rw [compact4]
  by_cases e1 : b = a <;> by_cases e2 : c = b <;> by_cases e3 : d = c <;>
    (first | rw [if_pos e1] | rw [if_neg e1]) <;> (first | rw [if_pos e2] | rw [if_neg e2]) <;> (first | rw [if_pos e3] | rw [if_neg e3]) <;>
    (refine ⟨?_, fun x => ?_⟩) <;> (first | (simp; done) | (simp; omega))
theorem four_is (l : List Spo) : ∃ a b c d, four l = [a, b, c, d] ∧ a ≤ b ∧ b ≤ c ∧ c ≤ d := by
  have hl := four_len l
  have hp : (four l).Pairwise (fun x y => decide (x ≤ y) = true) := by
    unfold four
    exact List.pairwise_mergeSort (fun a b c h1 h2 => by simp at *; omega) (fun a b => by simp; omega) _
  match hf : four l, hl with
  | [a, b, c, d], _ =>
    rw [hf] at hp
    simp at hp
    exact ⟨a, b, c, d, rfl, by omega, by omega, by omega⟩
theorem places_lt (l : List Spo) : (places l).Pairwise (· < ·) := by
  obtain ⟨a, b, c, d, h, h1, h2, h3⟩ := four_is l
  unfold places; rw [h]; exact (compact4_lt h1 h2 h3).1
theorem places_in {l : List Spo} {i : Int} (h : i = 0 ∨ i = at1 l ∨ i = at2 l ∨ i = at3 l) : i ∈ places l := by
  have hm : i ∈ four l := four_mem.2 h
  obtain ⟨a, b, c, d, e, h1, h2, h3⟩ := four_is l
  unfold places; rw [e] at hm ⊢
  exact ((compact4_lt h1 h2 h3).2 i).2 (by simpa using hm)
theorem subl (l : List Spo) : ∀ (is : List Int) (k : Nat), is.Pairwise (· < ·) → (∀ i ∈ is, (k : Int) ≤ i ∧ i < l.length) → (is.map fun i => nth l i.toNat).Sublist (l.drop k)
  | [], k, _, _ => List.nil_sublist _
  | i :: r, k, h, hi => by
    obtain ⟨h1, h2⟩ := hi i (List.mem_cons_self ..)
    obtain ⟨hp, hr⟩ := List.pairwise_cons.1 h
    have hlt : i.toNat < l.length := by omega
    have ih := subl l r (i.toNat + 1) hr fun j hj => ⟨by have := hp j hj; omega, (hi j (List.mem_cons_of_mem _ hj)).2⟩
    have e : l.drop i.toNat = nth l i.toNat :: l.drop (i.toNat + 1) := by
      rw [List.drop_eq_getElem_cons hlt]
      have := nth_get hlt
      rw [List.getElem?_eq_getElem hlt] at this
      rw [Option.some.inj this]
    rw [List.map_cons]
    refine List.Sublist.trans ?_ (List.drop_sublist_drop_left l (by omega : k ≤ i.toNat))
    rw [e]
    exact ih.cons_cons _
theorem at_lt {l : List Spo} (h : l ≠ []) : at1 l < l.length ∧ at2 l < l.length ∧ at3 l < l.length := ⟨best_lt _ h, best_lt _ h, best_lt _ h⟩
theorem patch_sub (l : List Spo) : (patchS l).Sublist l := by
  unfold patchS
  split
  · split
    · exact List.Sublist.refl _
    · have hl : l ≠ [] := fun e => by subst e; simp at *
      obtain ⟨h1, h2, h3⟩ := at_lt hl
      refine subl l (places l) 0 (places_lt l) fun i hi => ?_
      have := places_mem hi
      have hp : 0 < l.length := List.length_pos_iff.2 hl
      omega
  · exact List.nil_sublist _
theorem patch_len (l : List Spo) : (patchS l).length ≤ 4 := by
  unfold patchS
  split
  · split
    · assumption
    · rw [List.length_map]; exact places_len l
  · simp
theorem patch_few {l : List Spo} (hc : checkS l = 0) (h : l.length ≤ 4) : patchS l = l := by unfold patchS; rw [if_pos hc, if_pos h]
theorem check_sub {l m : List Spo} (h : m.Sublist l) (hc : checkS l = 0) : checkS m = 0 := by
  obtain ⟨h1, h2, h3⟩ := checkS_ok hc
  have hl := h.length_le
  unfold checkS
  rw [if_neg (by omega), if_pos ⟨fun s hs => h2.1 s (h.subset hs), h2.2.sublist (h.map nmS)⟩, if_pos fun s hs => h3 s (h.subset hs)]
theorem patch_own {l : List Spo} (hc : checkS l = 0) : checkS (patchS l) = 0 ∧ patchS (patchS l) = patchS l :=
  ⟨check_sub (patch_sub l) hc, patch_few (check_sub (patch_sub l) hc) (patch_len l)⟩
theorem patch_first {l : List Spo} (hc : checkS l = 0) (hl : l ≠ []) : (patchS l)[0]? = l[0]? := by
  have hp : 0 < l.length := List.length_pos_iff.2 hl
  unfold patchS
  rw [if_pos hc]
  split
  · rfl
  · have h0 : (0 : Int) ∈ places l := places_in (.inl rfl)
    have hlt := places_lt l
    cases hpl : places l with
    | nil => rw [hpl] at h0; cases h0
    | cons i r =>
      rw [hpl] at h0 hlt
      have hi : i = 0 := by
        rcases List.mem_cons.1 h0 with h | h
        · exact h.symm
        · have h1 := (List.pairwise_cons.1 hlt).1 0 h
          have := places_mem (l := l) (i := i) (by rw [hpl]; exact List.mem_cons_self ..)
          omega
      subst hi
      rw [List.map_cons, List.getElem?_cons_zero]
      exact (nth_get hp).symm
theorem best_ge (f : Spo → Int) (l : List Spo) : ∀ n, n ≤ l.length → (0 < n → (best f (l.take n)).m = f (nth l (best f (l.take n)).at_)) ∧ ∀ s ∈ l.take n, f s ≤ (best f (l.take n)).m
  | 0, _ => ⟨fun h => absurd h (by omega), fun s hs => by simp at hs⟩
  | n + 1, h => by
    obtain ⟨h1, h2⟩ := best_ge f l n (by omega)
    have hk : (best f (l.take n)).k = n := by rw [best_k, List.length_take]; omega
    have hx := nth_get (l := l) (k := n) (by omega)
    rw [take_snoc hx, best_snoc]
    by_cases c : n = 0 ∨ (best f (l.take n)).m < f (nth l n)
    · rw [step_yes hk c]
      refine ⟨fun _ => rfl, fun s hs => ?_⟩
      rcases List.mem_append.1 hs with hs | hs
      · rcases c with c | c
        · subst c; simp at hs
        · have := h2 s hs; simp; omega
      · obtain rfl := List.mem_singleton.1 hs; simp
    · have c0 : ¬ n = 0 := fun e => c (.inl e)
      have c1 : ¬ (best f (l.take n)).m < f (nth l n) := fun e => c (.inr e)
      rw [step_no hk c0 c1]
      refine ⟨fun _ => h1 (by omega), fun s hs => ?_⟩
      rcases List.mem_append.1 hs with hs | hs
      · exact h2 s hs
      · obtain rfl := List.mem_singleton.1 hs; simp; omega
theorem far_at1 {l : List Spo} (hl : l ≠ []) {s : Spo} (hs : s ∈ l) : fA l s ≤ fA l (nth l (at1 l)) := by
  have hp : 0 < l.length := List.length_pos_iff.2 hl
  obtain ⟨h1, h2⟩ := best_ge (fA l) l l.length (Nat.le_refl _)
  rw [List.take_length] at h1 h2
  have := h2 s hs
  rw [h1 hp] at this
  exact this
/-- None is further from the first than one of the patch. -/
theorem patch_far {l : List Spo} (hc : checkS l = 0) {s : Spo} (hs : s ∈ l) : ∃ x ∈ patchS l, GDot.far s.p (nth l 0).p ≤ GDot.far x.p (nth l 0).p := by
  unfold patchS
  rw [if_pos hc]
  split
  · exact ⟨s, hs, Int.le_refl _⟩
  · refine ⟨nth l (at1 l), ?_, far_at1 (List.ne_nil_of_mem hs) hs⟩
    refine List.mem_map.2 ⟨(at1 l : Int), places_in (.inr (.inl rfl)), by simp⟩
theorem greedy_yes {p l : List Spo} {a j : Nat} {s : Spo} (h : (p.drop a).Sublist (l.drop j)) (hl : l[j]? = some s) (hp : p[a]? = some s) : (p.drop (a + 1)).Sublist (l.drop (j + 1)) := by
  have h1 := get_lt hl; have h2 := get_lt hp
  rw [List.drop_eq_getElem_cons h1, List.drop_eq_getElem_cons h2] at h
  rw [List.getElem?_eq_getElem h1] at hl; rw [List.getElem?_eq_getElem h2] at hp
  rw [Option.some.inj hl, Option.some.inj hp] at h
  exact List.cons_sublist_cons.1 h
theorem greedy_no {p l : List Spo} {a j : Nat} {s t : Spo} (h : (p.drop a).Sublist (l.drop j)) (hl : l[j]? = some s) (hp : p[a]? = some t) (hne : ¬ s = t) : (p.drop a).Sublist (l.drop (j + 1)) := by
  have h1 := get_lt hl; have h2 := get_lt hp
  rw [List.drop_eq_getElem_cons h1, List.drop_eq_getElem_cons h2] at h
  rw [List.getElem?_eq_getElem h1] at hl; rw [List.getElem?_eq_getElem h2] at hp
  rw [Option.some.inj hl, Option.some.inj hp] at h
  rw [List.drop_eq_getElem_cons h2, Option.some.inj hp]
  cases h with
  | cons _ h => exact h
  | cons_cons _ h => exact absurd rfl hne
theorem greedy_end {p l : List Spo} {a j : Nat} (h : (p.drop a).Sublist (l.drop j)) (hj : l.length ≤ j) : p.length ≤ a := by
  rw [List.drop_eq_nil_of_le hj] at h
  have := List.sublist_nil.1 h
  exact List.drop_eq_nil_iff.1 this
end PSo
end Go.Proofs.Ytbbiefgmlklafaa
