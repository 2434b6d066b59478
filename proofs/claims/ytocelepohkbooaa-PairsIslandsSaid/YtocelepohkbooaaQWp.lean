/- Islands by going along pairs, plainly. No condition. -/
import Derived.Test.YtocelepohkbooaaQWt
import Derived.Test.YtocelepohkbooaaQIl
namespace Go.Proofs.Ytocelepohkbooaa
set_option linter.unusedVariables false
set_option linter.unusedSimpArgs false
open Go.RowKit Go.NP
namespace QWp
open QRt QIp QIl QWt QCk
def rise (l : List Int) : Prop := l.Pairwise (· < ·)
theorem mem_tw {q : Int → Bool} : ∀ {l : List Int} {x : Int}, x ∈ l.takeWhile q → q x = true
  | [], _, h => by cases h
  | y :: r, x, h => by
    rw [List.takeWhile_cons] at h
    split at h
    · rcases List.mem_cons.1 h with rfl | h
      · assumption
      · exact mem_tw h
    · cases h
theorem dw_rise {l : List Int} {x : Int} (h : rise l) (hx : x ∉ l) : ∀ y ∈ l.dropWhile (fun y => decide (y < x)), x < y := by
  induction l with
  | nil => intro y hy; cases hy
  | cons a r ih =>
    have h' := List.pairwise_cons.1 h
    intro y hy
    rw [List.dropWhile_cons] at hy
    split at hy
    · exact ih h'.2 (fun hm => hx (List.mem_cons_of_mem _ hm)) y hy
    · rename_i hn
      have hn : ¬ a < x := by simpa using hn
      have hne : x ≠ a := fun e => hx (e ▸ List.mem_cons_self ..)
      rcases List.mem_cons.1 hy with rfl | hy
      · omega
      · have := h'.1 y hy; omega
theorem with_mem {l : List Int} {x y : Int} : y ∈ withS l x ↔ y = x ∨ y ∈ l := by
  unfold withS
  split
  · rename_i h
    exact ⟨.inr, fun h2 => by rcases h2 with rfl | h2 <;> assumption⟩
  · have e := List.takeWhile_append_dropWhile (p := fun y => decide (y < x)) (l := l)
    conv => rhs; rw [← e]
    simp only [List.mem_append, List.mem_cons]
    constructor
    · rintro (h | h | h)
      · exact .inr (.inl h)
      · exact .inl h
      · exact .inr (.inr h)
    · rintro (h | h | h)
      · exact .inr (.inl h)
      · exact .inl h
      · exact .inr (.inr h)
theorem with_rise {l : List Int} {x : Int} (h : rise l) : rise (withS l x) := by
  unfold withS
  split
  · exact h
  · rename_i hx
    have e := List.takeWhile_append_dropWhile (p := fun y => decide (y < x)) (l := l)
    have h2 := h
    unfold rise at h2
    rw [← e] at h2
    obtain ⟨h3, h4, h5⟩ := List.pairwise_append.1 h2
    refine List.pairwise_append.2 ⟨h3, List.pairwise_cons.2 ⟨dw_rise h hx, h4⟩, fun a ha b hb => ?_⟩
    rcases List.mem_cons.1 hb with rfl | hb
    · simpa using mem_tw ha
    · exact h5 a ha b hb
theorem rise_sub : ∀ {a b : List Int}, rise a → rise b → (∀ x ∈ a, x ∈ b) → a.length ≤ b.length
  | [], _, _, _, _ => Nat.zero_le _
  | x :: a, [], _, _, h => by have := h x (List.mem_cons_self ..); cases this
  | x :: a, y :: b, ha, hb, h => by
    have ha' := List.pairwise_cons.1 ha; have hb' := List.pairwise_cons.1 hb
    by_cases e : x = y
    · subst e
      have := rise_sub ha'.2 hb'.2 fun z hz => by
        rcases List.mem_cons.1 (h z (List.mem_cons_of_mem _ hz)) with e | hm
        · have := ha'.1 z hz; omega
        · exact hm
      simp only [List.length_cons]; omega
    · have hx : x ∈ b := by
        rcases List.mem_cons.1 (h x (List.mem_cons_self ..)) with e2 | hm
        · exact absurd e2 e
        · exact hm
      have hyx := hb'.1 x hx
      have := rise_sub ha hb'.2 fun z hz => by
        rcases List.mem_cons.1 (h z hz) with e2 | hm
        · rcases List.mem_cons.1 hz with rfl | hz
          · exact absurd e2 e
          · have := ha'.1 z hz; omega
        · exact hm
      simp only [List.length_cons] at this ⊢; omega
theorem rise_ext : ∀ {r s : List Int}, rise r → rise s → (∀ p, p ∈ r ↔ p ∈ s) → r = s
  | [], [], _, _, _ => rfl
  | [], y :: s, _, _, h => by have := (h y).2 (List.mem_cons_self ..); cases this
  | x :: r, [], _, _, h => by have := (h x).1 (List.mem_cons_self ..); cases this
  | x :: r, y :: s, hr, hs, h => by
    have hr' := List.pairwise_cons.1 hr; have hs' := List.pairwise_cons.1 hs
    have e : x = y := by
      rcases List.mem_cons.1 ((h x).1 (List.mem_cons_self ..)) with e | hx
      · exact e
      · rcases List.mem_cons.1 ((h y).2 (List.mem_cons_self ..)) with e | hy
        · exact e.symm
        · have := hr'.1 y hy; have := hs'.1 x hx; omega
    subst e
    rw [rise_ext hr'.2 hs'.2 fun p => ?_]
    have hp := h p
    constructor
    · intro hm
      rcases List.mem_cons.1 (hp.1 (List.mem_cons_of_mem _ hm)) with e | hx
      · have := hr'.1 p hm; omega
      · exact hx
    · intro hm
      rcases List.mem_cons.1 (hp.2 (List.mem_cons_of_mem _ hm)) with e | hx
      · have := hs'.1 p hm; omega
      · exact hx
/-- All that hang together with a number. -/
def comp (fx : List Int) (l : List Pr) (n : Int) : List Int := (keysS fx l).filter fun m => decide (rho fx l m = rho fx l n)
theorem comp_rise (fx : List Int) (l : List Pr) (n : Int) : rise (comp fx l n) := (keysS_lt fx l).filter _
theorem comp_mem {fx : List Int} {l : List Pr} (hok : ∀ p ∈ l, okP p) {n m : Int} : m ∈ comp fx l n ↔ keyB fx l m = true ∧ rho fx l m = rho fx l n := by
  unfold comp
  rw [List.mem_filter, keysS_mem hok, decide_eq_true_eq]
theorem comp_len (fx : List Int) (l : List Pr) (n : Int) : (comp fx l n).length ≤ 4097 :=
  Nat.le_trans (List.length_filter_le _ _) (Nat.le_trans (List.length_filter_le _ _) (by simp [nums]))
/-- What is closed under the pairs is closed under having one root. -/
theorem closed_rho {fx : List Int} {l : List Pr} {out : List Int} (hc : ∀ p ∈ l, p.a ∉ fx → p.b ∉ fx → (p.a ∈ out ↔ p.b ∈ out)) : ∀ k m m', rho fx (l.take k) m = rho fx (l.take k) m' → (m ∈ out ↔ m' ∈ out)
  | 0, m, m', h => by
    have : m = m' := by simpa [rho] using h
    rw [this]
  | k + 1, m, m', h => by
    rcases Nat.lt_or_ge k l.length with hk | hk
    · obtain ⟨p, hp⟩ : ∃ p, l[k]? = some p := ⟨_, List.getElem?_eq_getElem hk⟩
      rw [rho_snoc hp] at h
      have ih := closed_rho hc k
      unfold stepR at h
      split at h
      · rename_i hu
        have hab := hc p (List.mem_of_getElem? hp) hu.1 hu.2
        have key : ∀ z, (rho fx (l.take k) z = rho fx (l.take k) p.a ∨ rho fx (l.take k) z = rho fx (l.take k) p.b) → (z ∈ out ↔ p.a ∈ out) := fun z hz => by
          rcases hz with hz | hz
          · exact ih z p.a hz
          · exact (ih z p.b hz).trans hab.symm
        unfold merge at h
        split at h
        · rename_i h1
          split at h
          · rename_i h2
            exact ih m m' (h1.trans h2.symm)
          · rename_i h2
            exact (key m (by omega)).trans (key m' (by omega)).symm
        · rename_i h1
          split at h
          · rename_i h2
            exact (key m (by omega)).trans (key m' (by omega)).symm
          · exact ih m m' h
      · exact ih m m' h
    · rw [List.take_of_length_le (by omega)] at h
      refine closed_rho hc k m m' ?_
      rw [List.take_of_length_le (by omega)]; exact h
/-- What is closed, holds the number and nothing else that does not hang together with it, is the island. -/
theorem comp_is {fx : List Int} {l : List Pr} (hok : ∀ p ∈ l, okP p) {n : Int} {out : List Int} (hr : rise out) (hn : n ∈ out) (hs : ∀ m ∈ out, m ∈ comp fx l n) (hc : ∀ p ∈ l, p.a ∉ fx → p.b ∉ fx → (p.a ∈ out ↔ p.b ∈ out)) : out = comp fx l n :=
  rise_ext hr (comp_rise fx l n) fun m => ⟨hs m, fun hm => by
    have h := (comp_mem hok).1 hm
    refine (closed_rho hc l.length m n ?_).2 hn
    rw [List.take_length]; exact h.2⟩
/-- A pair of which one is in an island: both are. -/
theorem comp_pair {fx : List Int} {l : List Pr} (hok : ∀ p ∈ l, okP p) {n : Int} {p : Pr} (hp : p ∈ l) (ha : p.a ∉ fx) (hb : p.b ∉ fx) (h : p.a ∈ comp fx l n ∨ p.b ∈ comp fx l n) : p.a ∈ comp fx l n ∧ p.b ∈ comp fx l n := by
  have e := rho_eq hp ha hb
  have ka := (key_of (fx := fx) hp).1.2 ha
  have kb := (key_of (fx := fx) hp).2.2 hb
  rcases h with h | h
  · have h2 := (comp_mem hok).1 h
    exact ⟨h, (comp_mem hok).2 ⟨kb, e.symm.trans h2.2⟩⟩
  · have h2 := (comp_mem hok).1 h
    exact ⟨(comp_mem hok).2 ⟨ka, e.trans h2.2⟩, h⟩
theorem inv_le {f : Int → Option Int} {r : Int → Int} (h : QRt.Inv f r) : ∀ (k : Nat) (n : Int), n.toNat ≤ k → (f n).isSome = true → r n ≤ n
  | 0, n, hk, hn => by have := h.rng n hn; omega
  | k + 1, n, hk, hn => by
    obtain ⟨m, hm⟩ := Option.isSome_iff_exists.1 hn
    have d := h.down n m hm
    by_cases e : m = n
    · subst e; rw [h.top m hm]; omega
    · have := h.rng m d.2.1
      have := inv_le h k m (by omega) d.2.1
      omega
theorem rho_le {fx : List Int} {l : List Pr} (hok : ∀ p ∈ l, okP p) {n : Int} (h : keyB fx l n = true) : rho fx l n ≤ n := by
  obtain ⟨f, hI, hK⟩ := inv_ex (fx := fx) hok l.length (Nat.le_refl _)
  rw [List.take_length] at hI hK
  exact inv_le hI n.toNat n (Nat.le_refl _) ((hK n).2 h)
end QWp
end Go.Proofs.Ytocelepohkbooaa
