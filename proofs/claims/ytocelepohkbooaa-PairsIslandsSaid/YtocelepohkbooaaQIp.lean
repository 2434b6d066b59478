/- Islands, plainly: the keys, the roots, the islands. No condition. -/
import Derived.Test.YtocelepohkbooaaQRt
import Derived.Test.YtocelepohkbooaaQSd
namespace Go.Proofs.Ytocelepohkbooaa
set_option linter.unusedVariables false
set_option linter.unusedSimpArgs false
open Go.RowKit Go.NP
namespace QIp
open QRt QCk
/-- A number that stands in a pair and is not fixed. -/
def keyB (fx : List Int) (l : List Pr) (n : Int) : Bool := !fx.contains n && l.any fun p => p.a == n || p.b == n
theorem keyB_iff {fx : List Int} {l : List Pr} {n : Int} : keyB fx l n = true ↔ n ∉ fx ∧ ∃ p ∈ l, p.a = n ∨ p.b = n := by
  unfold keyB
  simp [List.any_eq_true, List.contains_iff_mem]
def merge (r : Int → Int) (x y : Int) : Int → Int := fun n => if r n = max x y then min x y else r n
def stepR (fx : List Int) (r : Int → Int) (p : Pr) : Int → Int := if p.a ∉ fx ∧ p.b ∉ fx then merge r (r p.a) (r p.b) else r
/-- Each number's root. -/
def rho (fx : List Int) (l : List Pr) : Int → Int := l.foldl (stepR fx) id
theorem rho_snoc {fx : List Int} {l : List Pr} {j : Nat} {p : Pr} (h : l[j]? = some p) : rho fx (l.take (j + 1)) = stepR fx (rho fx (l.take j)) p := by
  unfold rho; rw [take_snoc h, List.foldl_append]; rfl
theorem keyB_snoc {fx : List Int} {l : List Pr} {j : Nat} {p : Pr} (h : l[j]? = some p) (n : Int) : keyB fx (l.take (j + 1)) n = true ↔ keyB fx (l.take j) n = true ∨ (n ∉ fx ∧ (p.a = n ∨ p.b = n)) := by
  rw [keyB_iff, keyB_iff, take_snoc h]
  constructor
  · rintro ⟨h1, q, hq, h2⟩
    rcases List.mem_append.1 hq with hq | hq
    · exact .inl ⟨h1, q, hq, h2⟩
    · obtain rfl := List.mem_singleton.1 hq; exact .inr ⟨h1, h2⟩
  · rintro (⟨h1, q, hq, h2⟩ | ⟨h1, h2⟩)
    · exact ⟨h1, q, List.mem_append_left _ hq, h2⟩
    · exact ⟨h1, p, List.mem_append_right _ (List.mem_singleton.2 rfl), h2⟩
/-- Two trees made one. -/
theorem inv_join {f : Int → Option Int} {r : Int → Int} (h : Inv f r) {x y : Int} (hx : f x = some x) (hy : f y = some y) : Inv (updI f (max x y) (min x y)) (merge r x y) := by
  have rx := h.top x hx; have ry := h.top y hy
  have hM : f (max x y) = some (max x y) := by rcases Int.le_total x y with h | h <;> simp [Int.max_def, h] <;> (try split) <;> assumption
  have hm : f (min x y) = some (min x y) := by rcases Int.le_total x y with h | h <;> simp [Int.min_def, h] <;> (try split) <;> assumption
  have rM := h.top _ hM; have rm := h.top _ hm
  have hle : min x y ≤ max x y := by omega
  have hsM : (f (max x y)).isSome := by rw [hM]; rfl
  have hmm : merge r x y (min x y) = min x y := by
    unfold merge; rw [rm]; split
    · rfl
    · rfl
  refine ⟨fun n hn => h.rng n (by rwa [updI_some f _ _ n hsM] at hn), fun n k hk => ?_, fun n hn => ?_, fun n hn => ?_, fun n hn => ?_⟩
  · rw [updI_some f _ _ k hsM]
    unfold updI at hk
    split at hk
    · rename_i e
      cases hk
      refine ⟨by omega, by rw [hm]; rfl, ?_⟩
      rw [hmm, e]
      unfold merge; rw [rM, if_pos rfl]
    · have := h.down n k hk
      exact ⟨this.1, this.2.1, by unfold merge; rw [this.2.2]⟩
  · unfold updI at hn
    split at hn
    · rename_i e
      injection hn with hn
      rw [← hn]; exact hmm
    · rename_i e
      have := h.top n hn
      unfold merge; rw [this, if_neg e]
  · rw [updI_some f _ _ n hsM] at hn
    have hr := h.root n hn
    by_cases e : r n = max x y
    · have e2 : merge r x y n = min x y := by unfold merge; rw [if_pos e]
      rw [e2]
      unfold updI
      split
      · rfl
      · exact hm
    · have e2 : merge r x y n = r n := by unfold merge; rw [if_neg e]
      rw [e2]
      unfold updI; rw [if_neg e]; exact hr
  · have hn' : (updI f (max x y) (min x y) n).isSome = false := by rw [hn]; rfl
    rw [updI_some f _ _ n hsM] at hn'
    have hn2 : f n = none := by simpa using hn'
    have := h.no n hn2
    have hne : n ≠ max x y := fun e => by rw [e, hM] at hn2; cases hn2
    unfold merge; rw [this, if_neg hne]
theorem inv_none : Inv (fun _ => none) id := ⟨fun n h => (by cases h), fun n k h => (by cases h), fun n h => (by cases h), fun n h => (by cases h), fun n _ => rfl⟩
/-- All that may be a key, rising. -/
def nums : List Int := (List.range 4097).map Int.ofNat
theorem nums_lt : nums.Pairwise (· < ·) := by
  unfold nums
  rw [List.pairwise_map]
  exact List.pairwise_lt_range.imp fun h => by simpa using h
theorem nums_mem {n : Int} (h : 1 ≤ n ∧ n ≤ 4096) : n ∈ nums := List.mem_map.2 ⟨n.toNat, List.mem_range.2 (by omega), by simp; omega⟩
/-- The keys, rising. -/
def keysS (fx : List Int) (l : List Pr) : List Int := nums.filter (keyB fx l)
theorem keysS_lt (fx : List Int) (l : List Pr) : (keysS fx l).Pairwise (· < ·) := nums_lt.filter _
theorem key_rng {fx : List Int} {l : List Pr} (hok : ∀ p ∈ l, okP p) {n : Int} (h : keyB fx l n = true) : 1 ≤ n ∧ n ≤ 4096 := by
  obtain ⟨_, p, hp, h⟩ := keyB_iff.1 h
  have := hok p hp
  unfold okP at this
  omega
theorem keysS_mem {fx : List Int} {l : List Pr} (hok : ∀ p ∈ l, okP p) {n : Int} : n ∈ keysS fx l ↔ keyB fx l n = true := by
  unfold keysS
  rw [List.mem_filter]
  exact ⟨fun h => h.2, fun h => ⟨nums_mem (key_rng hok h), h⟩⟩
/-- The islands: of each root, rising, the keys that have it. -/
def rootsS (fx : List Int) (l : List Pr) : List Int := (keysS fx l).filter fun n => decide (rho fx l n = n)
def islS (fx : List Int) (l : List Pr) : List (List Int) := (rootsS fx l).map fun r => (keysS fx l).filter fun n => decide (rho fx l n = r)
end QIp
end Go.Proofs.Ytocelepohkbooaa
