/- The document's Islands, plainly. No condition. -/
import Derived.Test.YtocelepohkbooaaQWp
namespace Go.Proofs.Ytocelepohkbooaa
set_option linter.unusedVariables false
set_option linter.unusedSimpArgs false
open Go.RowKit Go.NP
namespace QRp
open QRt QIp QIl QWt QWp QCk
/-- A number laid in if it is not fixed. -/
def put1 (fx : List Int) (s : List Int) (x : Int) : List Int := if x ∈ fx then s else withS s x
def allS (fx : List Int) (l : List Pr) : List Int := l.foldl (fun s p => put1 fx (put1 fx s p.a) p.b) []
theorem allS_snoc {fx : List Int} {l : List Pr} {k : Nat} {p : Pr} (h : l[k]? = some p) : allS fx (l.take (k + 1)) = put1 fx (put1 fx (allS fx (l.take k)) p.a) p.b := by
  unfold allS; rw [take_snoc h, List.foldl_append]; rfl
theorem put1_rise {fx s : List Int} {x : Int} (h : rise s) : rise (put1 fx s x) := by
  unfold put1; split
  · exact h
  · exact with_rise h
theorem put1_mem {fx s : List Int} {x y : Int} : y ∈ put1 fx s x ↔ y ∈ s ∨ (y = x ∧ x ∉ fx) := by
  unfold put1; split
  · rename_i h; simp [h]
  · rename_i h; rw [with_mem]; simp [h, or_comm]
theorem allS_ok {fx : List Int} {l : List Pr} : ∀ k, k ≤ l.length → rise (allS fx (l.take k)) ∧ ∀ x, x ∈ allS fx (l.take k) ↔ keyB fx (l.take k) x = true
  | 0, _ => ⟨List.Pairwise.nil, fun x => by simp [allS, keyB]⟩
  | k + 1, hk => by
    obtain ⟨p, hp⟩ : ∃ p, l[k]? = some p := ⟨_, List.getElem?_eq_getElem (by omega)⟩
    obtain ⟨h1, h2⟩ := allS_ok (fx := fx) (l := l) k (by omega)
    rw [allS_snoc hp]
    refine ⟨put1_rise (put1_rise h1), fun x => ?_⟩
    rw [put1_mem, put1_mem, keyB_snoc hp, h2]
    constructor
    · rintro ((h | ⟨rfl, h⟩) | ⟨rfl, h⟩)
      · exact .inl h
      · exact .inr ⟨h, .inl rfl⟩
      · exact .inr ⟨h, .inr rfl⟩
    · rintro (h | ⟨h, rfl | rfl⟩)
      · exact .inl (.inl h)
      · exact .inl (.inr ⟨rfl, h⟩)
      · exact .inr ⟨rfl, h⟩
theorem allS_is {fx : List Int} {l : List Pr} (hok : ∀ p ∈ l, okP p) : allS fx l = keysS fx l := by
  obtain ⟨h1, h2⟩ := allS_ok (fx := fx) (l := l) l.length (Nat.le_refl _)
  rw [List.take_length] at h1 h2
  exact rise_ext h1 (keysS_lt fx l) fun x => by rw [h2, keysS_mem hok]
theorem nums_len : nums.length = 4097 := by simp [nums]
theorem short {s : List Int} (h : rise s) (hm : ∀ x ∈ s, 1 ≤ x ∧ x ≤ 4096) : s.length ≤ 4097 := by
  have := rise_sub h (show rise nums from nums_lt) fun x hx => nums_mem (hm x hx)
  rwa [nums_len] at this
theorem nodup_sub : ∀ {a b : List Int}, a.Nodup → (∀ x ∈ a, x ∈ b) → a.length ≤ b.length
  | [], _, _, _ => Nat.zero_le _
  | x :: a, b, h, hs => by
    have h' := List.nodup_cons.1 h
    have hx := hs x (List.mem_cons_self ..)
    have := nodup_sub (b := b.erase x) h'.2 fun y hy => (List.mem_erase_of_ne (fun e => h'.1 (by rw [← e]; exact hy))).2 (hs y (List.mem_cons_of_mem _ hy))
    rw [List.length_erase_of_mem hx] at this
    have h0 := List.length_pos_of_mem hx
    simp only [List.length_cons]; omega
/-- The islands, as far as k keys have been looked at. -/
def outS (fx : List Int) (l : List Pr) (k : Nat) : List (List Int) := (((keysS fx l).take k).filter fun a => decide (rho fx l a = a)).map (comp fx l)
theorem outS_all (fx : List Int) (l : List Pr) : outS fx l (keysS fx l).length = islS fx l := by
  unfold outS islS
  rw [List.take_length]
  show (rootsS fx l).map _ = _
  refine List.map_congr_left fun r hr => ?_
  have : rho fx l r = r := by
    unfold rootsS at hr
    exact of_decide_eq_true (List.mem_filter.1 hr).2
  unfold comp
  rw [this]
/-- Those in an island that is done. -/
structure Done (fx : List Int) (l : List Pr) (k : Nat) (dn : List Int) : Prop where
  mem : ∀ x, x ∈ dn ↔ keyB fx l x = true ∧ ∃ a ∈ (keysS fx l).take k, rho fx l a = rho fx l x
  nd : dn.Nodup
theorem Done.start (fx : List Int) (l : List Pr) : Done fx l 0 [] := ⟨fun x => by simp, List.nodup_nil⟩
theorem Done.len {fx : List Int} {l : List Pr} (hok : ∀ p ∈ l, okP p) {k : Nat} {dn : List Int} (h : Done fx l k dn) : dn.length ≤ 4097 :=
  Nat.le_trans (nodup_sub h.nd fun x hx => (keysS_mem hok).2 ((h.mem x).1 hx).1) (Nat.le_trans (List.length_filter_le _ _) (by rw [nums_len]; exact Nat.le_refl _))
theorem take_lt {fx : List Int} {l : List Pr} {k : Nat} {a x : Int} (ha : (keysS fx l)[k]? = some a) (hx : x ∈ (keysS fx l).take k) : x < a := by
  obtain ⟨i, hi, rfl⟩ := List.getElem_of_mem hx
  have h1 := get_lt ha
  rw [List.getElem?_eq_getElem h1] at ha
  have hi2 : i < k := by have := hi; rw [List.length_take] at this; omega
  rw [List.getElem_take, ← Option.some.inj ha]
  exact List.pairwise_iff_getElem.1 (keysS_lt fx l) i k (by omega) h1 hi2
theorem lt_take {fx : List Int} {l : List Pr} {k : Nat} {a x : Int} (ha : (keysS fx l)[k]? = some a) (hx : x ∈ keysS fx l) (h : x < a) : x ∈ (keysS fx l).take k := by
  obtain ⟨i, hi, rfl⟩ := List.getElem_of_mem hx
  have h1 := get_lt ha
  rw [List.getElem?_eq_getElem h1] at ha
  have ha := Option.some.inj ha
  have hp := List.pairwise_iff_getElem.1 (keysS_lt fx l)
  have hik : i < k := by
    rcases Nat.lt_trichotomy i k with h2 | h2 | h2
    · exact h2
    · subst h2; omega
    · have := hp k i h1 hi h2; omega
  exact List.mem_iff_getElem.2 ⟨i, by rw [List.length_take]; omega, by rw [List.getElem_take]⟩
/-- A key whose island is done is no root; one whose island is not done is one. -/
theorem done_root {fx : List Int} {l : List Pr} (hok : ∀ p ∈ l, okP p) {k : Nat} {dn : List Int} (h : Done fx l k dn) {a : Int} (ha : (keysS fx l)[k]? = some a) : a ∈ dn ↔ ¬ rho fx l a = a := by
  have hm := List.mem_of_getElem? ha
  have hk := (keysS_mem hok).1 hm
  constructor
  · intro hd e
    obtain ⟨_, a', h1, h2⟩ := (h.mem a).1 hd
    have h3 := take_lt ha h1
    have h4 := rho_le hok ((keysS_mem hok).1 (List.mem_of_mem_take h1))
    rw [h2, e] at h4
    omega
  · intro hne
    have h1 := rho_le hok hk
    have hr := root_mem hok hk
    unfold rootsS at hr
    obtain ⟨h2, h3⟩ := List.mem_filter.1 hr
    exact (h.mem a).2 ⟨hk, _, lt_take ha h2 (by omega), of_decide_eq_true h3⟩
theorem outS_in {fx : List Int} {l : List Pr} {k : Nat} {a : Int} (ha : (keysS fx l)[k]? = some a) (h : ¬ rho fx l a = a) : outS fx l (k + 1) = outS fx l k := by
  unfold outS
  rw [take_snoc ha, List.filter_append, List.filter_cons, if_neg (by simpa using h)]
  simp
theorem outS_new {fx : List Int} {l : List Pr} {k : Nat} {a : Int} (ha : (keysS fx l)[k]? = some a) (h : rho fx l a = a) : outS fx l (k + 1) = outS fx l k ++ [comp fx l a] := by
  unfold outS
  rw [take_snoc ha, List.filter_append, List.filter_cons, if_pos (by simpa using h)]
  simp
theorem Done.same {fx : List Int} {l : List Pr} (hok : ∀ p ∈ l, okP p) {k : Nat} {dn : List Int} (h : Done fx l k dn) {a : Int} (ha : (keysS fx l)[k]? = some a) (hd : a ∈ dn) : Done fx l (k + 1) dn := by
  refine ⟨fun x => ?_, h.nd⟩
  rw [h.mem, take_snoc ha]
  constructor
  · rintro ⟨h1, a', h2, h3⟩; exact ⟨h1, a', List.mem_append_left _ h2, h3⟩
  · rintro ⟨h1, a', h2, h3⟩
    rcases List.mem_append.1 h2 with h2 | h2
    · exact ⟨h1, a', h2, h3⟩
    · obtain rfl := List.mem_singleton.1 h2
      obtain ⟨_, a2, h4, h5⟩ := (h.mem a').1 hd
      exact ⟨h1, a2, h4, h5.trans h3⟩
theorem Done.more {fx : List Int} {l : List Pr} (hok : ∀ p ∈ l, okP p) {k : Nat} {dn : List Int} (h : Done fx l k dn) {a : Int} (ha : (keysS fx l)[k]? = some a) (hd : a ∉ dn) : Done fx l (k + 1) (dn ++ comp fx l a) := by
  have hk := (keysS_mem hok).1 (List.mem_of_getElem? ha)
  refine ⟨fun x => ?_, List.nodup_append.2 ⟨h.nd, (comp_rise fx l a).imp fun h => by omega, fun x hx y hy e => ?_⟩⟩
  · rw [List.mem_append, h.mem, comp_mem hok, take_snoc ha]
    constructor
    · rintro (⟨h1, a', h2, h3⟩ | ⟨h1, h2⟩)
      · exact ⟨h1, a', List.mem_append_left _ h2, h3⟩
      · exact ⟨h1, a, List.mem_append_right _ (List.mem_singleton.2 rfl), h2.symm⟩
    · rintro ⟨h1, a', h2, h3⟩
      rcases List.mem_append.1 h2 with h2 | h2
      · exact .inl ⟨h1, a', h2, h3⟩
      · obtain rfl := List.mem_singleton.1 h2; exact .inr ⟨h1, h3.symm⟩
  · subst e
    obtain ⟨_, a', h1, h2⟩ := (h.mem x).1 hx
    have h3 := ((comp_mem hok).1 hy).2
    exact hd ((h.mem a).2 ⟨hk, a', h1, h2.trans h3⟩)
end QRp
end Go.Proofs.Ytocelepohkbooaa
