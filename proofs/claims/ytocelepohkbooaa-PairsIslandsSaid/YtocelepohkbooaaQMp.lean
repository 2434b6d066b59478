/- Two lists in order, gone through side by side: plain laws. No condition. -/
import Derived.Test.YtocelepohkbooaaQDf
namespace Go.Proofs.Ytocelepohkbooaa
set_option linter.unusedVariables false
set_option linter.unusedSimpArgs false
open Go.RowKit Go.NP
namespace QMp
open QCk QCl QDf
theorem ltP_ne {p q : Pr} (h : ltP p q) : p ≠ q := fun e => by subst e; unfold ltP at h; omega
theorem ltP_asymm {p q : Pr} (h : ltP p q) (k : ltP q p) : False := by unfold ltP at *; omega
theorem drop_cons {l : List Pr} {k : Nat} {p : Pr} (h : l[k]? = some p) : l.drop k = p :: l.drop (k + 1) := by
  have hk := get_lt h
  rw [List.drop_eq_getElem_cons hk]
  rw [List.getElem?_eq_getElem hk] at h
  rw [Option.some.inj h]
theorem risen_drop {l : List Pr} (h : risen l) {k : Nat} {p : Pr} (hp : l[k]? = some p) : ∀ q ∈ l.drop (k + 1), ltP p q := by
  have h2 : risen (l.drop k) := List.Pairwise.sublist (List.drop_sublist _ _) h
  rw [drop_cons hp] at h2
  exact (List.pairwise_cons.1 h2).1
/-- How far both have been gone through. -/
structure Side (o w : List Pr) (i k : Nat) : Prop where
  ro : risen o
  rw_ : risen w
  up : ∀ x ∈ o.take i, ∀ y ∈ w.drop k, ltP x y
  dn : ∀ y ∈ w.take k, ∀ x ∈ o.drop i, ltP y x
theorem Side.start {o w : List Pr} (h : risen o) (k : risen w) : Side o w 0 0 := ⟨h, k, fun x hx => by simp at hx, fun x hx => by simp at hx⟩
theorem mem_split {l : List Pr} {k : Nat} {x : Pr} : x ∈ l ↔ x ∈ l.take k ∨ x ∈ l.drop k := by
  rw [← List.mem_append, List.take_append_drop]
variable {o w : List Pr} {i k : Nat} {x y : Pr}
theorem Side.no_old (h : Side o w i k) (hx : o[i]? = some x) (hy : w[k]? = some y) (c : ltP x y) : x ∉ w := fun hm => by
  rcases mem_split.1 hm with hm | hm
  · have hd : x ∈ o.drop i := by rw [drop_cons hx]; exact List.mem_cons_self ..
    exact ltP_ne (h.dn x hm x hd) rfl
  · rw [drop_cons hy] at hm
    rcases List.mem_cons.1 hm with e | hm
    · exact ltP_ne c e
    · exact ltP_ne (ltP_trans c (risen_drop h.rw_ hy x hm)) rfl
theorem Side.no_new (h : Side o w i k) (hx : o[i]? = some x) (hy : w[k]? = some y) (c : ltP y x) : y ∉ o := fun hm => by
  rcases mem_split.1 hm with hm | hm
  · have hd : y ∈ w.drop k := by rw [drop_cons hy]; exact List.mem_cons_self ..
    exact ltP_ne (h.up y hm y hd) rfl
  · rw [drop_cons hx] at hm
    rcases List.mem_cons.1 hm with e | hm
    · exact ltP_ne c e
    · exact ltP_ne (ltP_trans c (risen_drop h.ro hx y hm)) rfl
theorem Side.old (h : Side o w i k) (hx : o[i]? = some x) (hy : w[k]? = some y) (c : ltP x y) : Side o w (i + 1) k := by
  refine ⟨h.ro, h.rw_, fun z hz q hq => ?_, fun q hq z hz => h.dn q hq z (by rw [drop_cons hx]; exact List.mem_cons_of_mem _ hz)⟩
  rw [take_snoc hx] at hz
  rcases List.mem_append.1 hz with hz | hz
  · exact h.up z hz q hq
  · obtain rfl := List.mem_singleton.1 hz
    rw [drop_cons hy] at hq
    rcases List.mem_cons.1 hq with e | hq
    · subst e; exact c
    · exact ltP_trans c (risen_drop h.rw_ hy q hq)
theorem Side.new (h : Side o w i k) (hx : o[i]? = some x) (hy : w[k]? = some y) (c : ltP y x) : Side o w i (k + 1) := by
  refine ⟨h.ro, h.rw_, fun z hz q hq => h.up z hz q (by rw [drop_cons hy]; exact List.mem_cons_of_mem _ hq), fun q hq z hz => ?_⟩
  rw [take_snoc hy] at hq
  rcases List.mem_append.1 hq with hq | hq
  · exact h.dn q hq z hz
  · obtain rfl := List.mem_singleton.1 hq
    rw [drop_cons hx] at hz
    rcases List.mem_cons.1 hz with e | hz
    · subst e; exact c
    · exact ltP_trans c (risen_drop h.ro hx z hz)
theorem Side.both (h : Side o w i k) (hx : o[i]? = some x) (hy : w[k]? = some x) : Side o w (i + 1) (k + 1) := by
  refine ⟨h.ro, h.rw_, fun z hz q hq => ?_, fun q hq z hz => ?_⟩
  · rw [take_snoc hx] at hz
    rcases List.mem_append.1 hz with hz | hz
    · exact h.up z hz q (by rw [drop_cons hy]; exact List.mem_cons_of_mem _ hq)
    · obtain rfl := List.mem_singleton.1 hz; exact risen_drop h.rw_ hy q hq
  · rw [take_snoc hy] at hq
    rcases List.mem_append.1 hq with hq | hq
    · exact h.dn q hq z (by rw [drop_cons hx]; exact List.mem_cons_of_mem _ hz)
    · obtain rfl := List.mem_singleton.1 hq; exact risen_drop h.ro hx z hz
theorem onl_split (l m : List Pr) (b : Bool) (j : Nat) : onl l m b = onl (l.take j) m b ++ onl (l.drop j) m b := by
  unfold onl; rw [← List.filter_append, List.take_append_drop]
theorem onl_all {l m : List Pr} (h : ∀ z ∈ l, z ∉ m) : onl l m false = l := by
  unfold onl; exact List.filter_eq_self.2 fun z hz => by simp [h z hz]
theorem onl_none {l m : List Pr} (h : ∀ z ∈ l, z ∉ m) : onl l m true = [] := by
  unfold onl; exact List.filter_eq_nil_iff.2 fun z hz => by simp [h z hz]
theorem Side.end_old (h : Side o w i k) (hi : o.length ≤ i) : onl (w.take k) o false ++ w.drop k = onl w o false ∧ onl (o.take i) w true = onl o w true ∧ onl (o.take i) w false = onl o w false := by
  have e := List.take_of_length_le hi
  refine ⟨?_, by rw [e], by rw [e]⟩
  rw [onl_split w o false k]
  congr 1
  exact (onl_all fun z hz hm => ltP_ne (h.up z (by rw [e]; exact hm) z hz) rfl).symm
theorem Side.end_new (h : Side o w i k) (hk : w.length ≤ k) : onl (w.take k) o false = onl w o false ∧ onl (o.take i) w true = onl o w true ∧ onl (o.take i) w false ++ o.drop i = onl o w false := by
  have e := List.take_of_length_le hk
  have hno : ∀ z ∈ o.drop i, z ∉ w := fun z hz hm => ltP_ne (h.dn z (by rw [e]; exact hm) z hz) rfl
  refine ⟨by rw [e], ?_, ?_⟩
  · rw [onl_split o w true i, onl_none hno, List.append_nil]
  · rw [onl_split o w false i, onl_all hno]
theorem onl_t {l m : List Pr} {j : Nat} {z : Pr} (h : l[j]? = some z) (hm : z ∈ m) : onl (l.take (j + 1)) m true = onl (l.take j) m true ++ [z] ∧ onl (l.take (j + 1)) m false = onl (l.take j) m false :=
  ⟨onl_yes h (by simp [hm]), onl_no h (by simp [hm])⟩
theorem onl_f {l m : List Pr} {j : Nat} {z : Pr} (h : l[j]? = some z) (hm : z ∉ m) : onl (l.take (j + 1)) m false = onl (l.take j) m false ++ [z] ∧ onl (l.take (j + 1)) m true = onl (l.take j) m true :=
  ⟨onl_yes h (by simp [hm]), onl_no h (by simp [hm])⟩
end QMp
end Go.Proofs.Ytocelepohkbooaa
