/- pairs.Sorted: its contract, and the plain law of what it answers. No condition. -/
import Derived.Test.YtocelepohkbooaaQCm
import Derived.Test.YtocelepohkbooaaQSo
import Derived.Test.YtocelepohkbooaaQMp
namespace Go.Proofs.Ytocelepohkbooaa
set_option linter.unusedVariables false
set_option linter.unusedSimpArgs false
open Go.RowKit Go.NP Go.Lib
namespace QSd
open QCm QCp QCk QCl QDf QMp QCn QSo
theorem lt_total (p q : Pr) : ltP p q ∨ p = q ∨ ltP q p := by
  obtain ⟨a, b⟩ := p; obtain ⟨c, d⟩ := q
  unfold ltP; simp only [Pr.mk.injEq]; omega
/-- Two lists in order with the same members are one. -/
theorem risen_ext : ∀ {r s : List Pr}, risen r → risen s → (∀ p, p ∈ r ↔ p ∈ s) → r = s
  | [], [], _, _, _ => rfl
  | [], y :: s, _, _, h => by have := (h y).2 (List.mem_cons_self ..); cases this
  | x :: r, [], _, _, h => by have := (h x).1 (List.mem_cons_self ..); cases this
  | x :: r, y :: s, hr, hs, h => by
    have hr' := List.pairwise_cons.1 hr; have hs' := List.pairwise_cons.1 hs
    have e : x = y := by
      rcases List.mem_cons.1 ((h x).1 (List.mem_cons_self ..)) with e | hx
      · exact e
      · rcases List.mem_cons.1 ((h y).2 (List.mem_cons_self ..)) with e | hy
        · exact e.symm
        · exact absurd (hr'.1 y hy) fun k => ltP_asymm k (hs'.1 x hx)
    subst e
    rw [risen_ext hr'.2 hs'.2 fun p => ?_]
    have hp := h p
    constructor
    · intro hm
      rcases List.mem_cons.1 (hp.1 (List.mem_cons_of_mem _ hm)) with e | hx
      · exact absurd e.symm (ltP_ne (hr'.1 p hm))
      · exact hx
    · intro hm
      rcases List.mem_cons.1 (hp.2 (List.mem_cons_of_mem _ hm)) with e | hx
      · exact absurd e.symm (ltP_ne (hs'.1 p hm))
      · exact hx
/-- A pair laid into a list in order. -/
def ins (out : List Pr) (p : Pr) : List Pr := out.takeWhile (fun x => decide (ltP x p)) ++ p :: out.dropWhile (fun x => decide (ltP x p))
/-- The list in order, each once. -/
def sortS : List Pr → List Pr := fun l => l.foldl (fun out p => if p ∈ out then out else ins out p) []
theorem dropWhile_risen {out : List Pr} {p : Pr} (h : risen out) (hp : p ∉ out) : ∀ x ∈ out.dropWhile (fun x => decide (ltP x p)), ltP p x := by
  induction out with
  | nil => intro x hx; cases hx
  | cons y r ih =>
    have h' := List.pairwise_cons.1 h
    intro x hx
    rw [List.dropWhile_cons] at hx
    split at hx
    · exact ih h'.2 (fun hm => hp (List.mem_cons_of_mem _ hm)) x hx
    · rename_i hn
      have hn : ¬ ltP y p := by simpa using hn
      have hy : ltP p y := by
        rcases lt_total p y with h | h | h
        · exact h
        · exact absurd (h ▸ List.mem_cons_self ..) hp
        · exact absurd h hn
      rcases List.mem_cons.1 hx with rfl | hx
      · exact hy
      · exact ltP_trans hy (h'.1 x hx)
theorem mem_takeWhile {q : Pr → Bool} : ∀ {l : List Pr} {x : Pr}, x ∈ l.takeWhile q → q x = true
  | [], _, h => by cases h
  | y :: r, x, h => by
    rw [List.takeWhile_cons] at h
    split at h
    · rcases List.mem_cons.1 h with rfl | h
      · assumption
      · exact mem_takeWhile h
    · cases h
theorem ins_mem {out : List Pr} {p x : Pr} : x ∈ ins out p ↔ x = p ∨ x ∈ out := by
  have e := List.takeWhile_append_dropWhile (p := fun x => decide (ltP x p)) (l := out)
  unfold ins
  conv => rhs; rw [← e]
  simp only [List.mem_append, List.mem_cons]
  constructor
  · rintro (h | h | h)
    · exact .inr (.inl h)
    · exact .inl h
    · exact .inr (.inr h)
  · rintro (h | h | h)
    · exact .inr (.inl h)
    · exact .inl h
    · exact .inr (.inr h)
theorem ins_risen {out : List Pr} {p : Pr} (h : risen out) (hp : p ∉ out) : risen (ins out p) := by
  have e := List.takeWhile_append_dropWhile (p := fun x => decide (ltP x p)) (l := out)
  have h2 := h
  rw [← e] at h2
  obtain ⟨h3, h4, h5⟩ := List.pairwise_append.1 h2
  refine List.pairwise_append.2 ⟨h3, List.pairwise_cons.2 ⟨dropWhile_risen h hp, h4⟩, fun x hx y hy => ?_⟩
  rcases List.mem_cons.1 hy with rfl | hy
  · simpa using mem_takeWhile hx
  · exact h5 x hx y hy
theorem ins_len (out : List Pr) (p : Pr) : (ins out p).length = out.length + 1 := by
  have e := congrArg List.length (List.takeWhile_append_dropWhile (p := fun x => decide (ltP x p)) (l := out))
  rw [List.length_append] at e
  unfold ins
  rw [List.length_append, List.length_cons]; omega
/-- One step of the sorting. -/
def stp (out : List Pr) (p : Pr) : List Pr := if p ∈ out then out else ins out p
theorem stp_mem {out : List Pr} {p x : Pr} : x ∈ stp out p ↔ x = p ∨ x ∈ out := by
  unfold stp
  split
  · rename_i h
    exact ⟨.inr, fun h2 => by rcases h2 with rfl | h2 <;> assumption⟩
  · exact ins_mem
theorem stp_risen {out : List Pr} {p : Pr} (h : risen out) : risen (stp out p) := by
  unfold stp
  split
  · exact h
  · exact ins_risen h (by assumption)
theorem stp_len (out : List Pr) (p : Pr) : (stp out p).length ≤ out.length + 1 := by
  unfold stp
  split
  · omega
  · rw [ins_len]; exact Nat.le_refl _
theorem fold_sort : ∀ (l out : List Pr), risen out → risen (l.foldl stp out) ∧ (∀ x, x ∈ l.foldl stp out ↔ x ∈ out ∨ x ∈ l) ∧ (l.foldl stp out).length ≤ out.length + l.length
  | [], out, h => ⟨h, fun x => by simp, by simp⟩
  | p :: r, out, h => by
    obtain ⟨h1, h2, h3⟩ := fold_sort r (stp out p) (stp_risen h)
    refine ⟨h1, fun x => ?_, ?_⟩
    · rw [List.foldl_cons, h2, stp_mem, List.mem_cons]; constructor
      · rintro ((h | h) | h) <;> simp [h]
      · rintro (h | h | h) <;> simp [h]
    · rw [List.foldl_cons]; have := stp_len out p; simp only [List.length_cons]; omega
theorem sortS_eq (l : List Pr) : sortS l = l.foldl stp [] := rfl
theorem sortS_risen (l : List Pr) : risen (sortS l) := (fold_sort l [] List.Pairwise.nil).1
theorem sortS_mem {l : List Pr} {x : Pr} : x ∈ sortS l ↔ x ∈ l := by rw [sortS_eq, (fold_sort l [] List.Pairwise.nil).2.1]; simp
theorem sortS_len (l : List Pr) : (sortS l).length ≤ l.length := by have := (fold_sort l [] List.Pairwise.nil).2.2; rw [← sortS_eq] at this; simpa using this
/-- What is in order already is what it is. -/
theorem sortS_id {l : List Pr} (h : risen l) : sortS l = l := risen_ext (sortS_risen l) h fun _ => sortS_mem
theorem sortS_same {l m : List Pr} (h : ∀ x, x ∈ l ↔ x ∈ m) : sortS l = sortS m := risen_ext (sortS_risen l) (sortS_risen m) fun x => by rw [sortS_mem, sortS_mem]; exact h x
/-- Of a list that does not fall, the first of each run. -/
theorem compact_run {r : List Pr} (h : r.Pairwise fun x y => ¬ ltP y x) : ∀ m, m ≤ r.length → risen (compactUpTo r.toArray m) ∧ (∀ x, x ∈ compactUpTo r.toArray m ↔ x ∈ r.take m) ∧ (0 < m → ∀ x ∈ compactUpTo r.toArray m, ¬ ltP (r.toArray[m - 1]!) x) := by
  intro m
  induction m with
  | zero => intro _; exact ⟨List.Pairwise.nil, fun x => by simp [compactUpTo], fun h => absurd h (by omega)⟩
  | succ m ih =>
    intro hm
    obtain ⟨h1, h2, h3⟩ := ih (by omega)
    have hg : r.toArray[m]! = r[m] := by rw [getElem!_pos r.toArray m (by simp; omega)]; simp
    have ht : ∀ x, x ∈ r.take (m + 1) ↔ x ∈ r.take m ∨ x = r[m] := fun x => by rw [List.take_succ_eq_append_getElem (by omega), List.mem_append, List.mem_singleton]
    have hle : ∀ x ∈ r.take m, ¬ ltP r[m] x := fun x hx => by
      obtain ⟨i, hi, rfl⟩ := List.getElem_of_mem hx
      have hi' : i < m := by have := hi; rw [List.length_take] at this; omega
      rw [List.getElem_take]
      exact List.pairwise_iff_getElem.1 h i m (by omega) (by omega) hi'
    rw [compactUpTo_succ, Nat.add_sub_cancel, hg]
    by_cases hk : keeps r.toArray m = true
    · rw [if_pos hk]
      refine ⟨List.pairwise_append.2 ⟨h1, List.pairwise_singleton .., fun x hx y hy => ?_⟩, fun x => ?_, fun _ x hx => ?_⟩
      · obtain rfl := List.mem_singleton.1 hy
        have hm0 : 0 < m := by
          rcases Nat.eq_zero_or_pos m with rfl | h
          · exact absurd ((h2 x).1 hx) (by simp)
          · exact h
        have hne : r.toArray[m]! ≠ r.toArray[m - 1]! := by
          have := hk; unfold keeps at this; simp only [decide_eq_true_eq] at this
          rcases this with h | h
          · omega
          · exact h
        have hg1 : r.toArray[m - 1]! = r[m - 1] := by rw [getElem!_pos r.toArray (m - 1) (by simp; omega)]; simp
        have l1 : ¬ ltP r[m] r[m - 1] := List.pairwise_iff_getElem.1 h (m - 1) m (by omega) (by omega) (by omega)
        have l2 : ltP r[m - 1] r[m] := by
          rcases lt_total r[m - 1] r[m] with h | h | h
          · exact h
          · exact absurd (by rw [hg, hg1]; exact h.symm) hne
          · exact absurd h l1
        have l3 := h3 hm0 x hx
        rw [hg1] at l3
        rcases lt_total x r[m - 1] with h | h | h
        · exact ltP_trans h l2
        · exact h ▸ l2
        · exact absurd h l3
      · rw [ht, List.mem_append, h2, List.mem_singleton]
      · rcases List.mem_append.1 hx with hx | hx
        · exact hle x ((h2 x).1 hx)
        · obtain rfl := List.mem_singleton.1 hx
          intro h; unfold ltP at h; omega
    · rw [if_neg hk, List.append_nil]
      have hk' : ¬ (m = 0 ∨ r.toArray[m]! ≠ r.toArray[m - 1]!) := by unfold keeps at hk; simpa using hk
      have hm0 : m ≠ 0 := fun e => hk' (.inl e)
      have he : r.toArray[m]! = r.toArray[m - 1]! := Decidable.byContradiction fun e => hk' (.inr e)
      have hg1 : r.toArray[m - 1]! = r[m - 1] := by rw [getElem!_pos r.toArray (m - 1) (by simp; omega)]; simp
      refine ⟨h1, fun x => ?_, fun _ x hx => hle x ((h2 x).1 hx)⟩
      rw [ht, h2]
      refine ⟨.inl, fun h => ?_⟩
      rcases h with h | rfl
      · exact h
      · rw [← hg, he, hg1]
        exact List.mem_iff_getElem.2 ⟨m - 1, by rw [List.length_take]; omega, by rw [List.getElem_take]⟩
theorem compact_sortS {l r : List Pr} (hp : r.Perm l) (h : r.Pairwise fun x y => ¬ ltP y x) : compact r = sortS l := by
  obtain ⟨h1, h2, _⟩ := compact_run h r.length (Nat.le_refl _)
  refine risen_ext h1 (sortS_risen l) fun x => ?_
  rw [sortS_mem]
  show x ∈ compactUpTo r.toArray r.length ↔ _
  rw [h2, List.take_length]
  exact hp.mem_iff
/-- slices.Compact at a list of one's own. -/
theorem compactC {base : Nat} {v : Value} {l : List Pr} (w : World) (h : OwnS w base v l) (hn : l.length ≤ 65536) :
    Calls Try.prog 25 #[v] w fun e w' => ∃ u, e = .returned u ∧ OwnS w' base u (compact l) ∧ ∀ w0, Below base w0 w → Below base w0 w' := by
  rcases h.2 with ⟨rfl, h0⟩ | ⟨g, cap, cur, rfl, hb, hg, hc, hm, hsz, hx⟩
  · obtain rfl : l = [] := List.eq_nil_of_length_eq_zero h0
    go_enter Try.func25, Try.ntmps25
    go_wp2
    go_ret
    exact ⟨_, rfl, OwnS.nil _ _, fun w0 h => h⟩
  · have hB : Box w g cur.toList 39 := by unfold Box; rw [Array.toArray_toList]; exact hg
    have hcl : (compact l).length ≤ l.length := by
      unfold compact compactUpTo
      rw [List.length_map]
      exact Nat.le_trans (List.length_filter_le _ _) (by simp)
    refine (compG (base := base) w hb hB (by simpa using hsz) (cells_of hx) rfl hc hn).mono ?_
    rintro e w' ⟨L', rfl, hb', hl', hc', hbel⟩
    refine ⟨_, rfl, ⟨by rw [prvs_len], .inr ⟨g, cap, L'.toArray, rfl, hb, hb', by omega, hm, by simpa using hl', ?_⟩⟩, hbel⟩
    exact hc'.take (by rw [hl']; have : (compact l).length ≤ cap := by omega
                       exact Nat.mul_le_mul_right 2 this)
/-- Two results: a list of one's own, and a number. -/
def Ret2 (f : Nat) (args : Array Value) (w : World) (x : List Pr) (n : Int) : Prop := Calls Try.prog f args w fun e w' => ∃ u, e = .returned (.tuple #[u, .int .i64 n]) ∧ OwnS w' w.heap.size u x ∧ Below w.heap.size w w'
/-- What Sorted answers. -/
def sortA (l : List Pr) : List Pr := if fineS l = 0 then sortS l else []
set_option maxHeartbeats 1000000 in
theorem sortedC {A : Option Addr} {n : Nat} (cap : Nat) {l : List Pr} (w : World) (h : SlS w A n l) : Ret2 9 #[.slice A n cap] w (sortA l) (fineS l) := by
  have hln := h.1
  by_cases hf : fineS l = 0
  · have t : (0 : Int) = 0 := rfl
    obtain ⟨h1, h2⟩ := fineS_ok hf
    have hA : sortA l = sortS l := if_pos hf
    rw [hA]
    go_enter Try.func9, Try.ntmps9
    go_wp2_with fail
    refine (fineC cap w h).mono ?_
    rintro e w1 ⟨rfl, hS1⟩
    rw [hf]
    go_wp2_with fail
    refine (cloneC cap w1 (h.step hS1) (by omega)).mono ?_
    rintro e w2 ⟨v, rfl, hv, hS2⟩
    go_wp2_with fail
    refine (sortC w2 hv h2 h1).mono ?_
    rintro e w3 ⟨rfl, ⟨r, hp, hr, hv3⟩, hS3⟩
    go_wp2_with fail
    refine (compactC w3 hv3 (by rw [hp.length_eq]; exact h1)).mono ?_
    rintro e w4 ⟨u, rfl, hu, hS4⟩
    rw [compact_sortS hp hr] at hu
    go_wp2_with fail
    exact bodyPost_ret (v := .tuple #[u, .int .i64 0]) (by simp [results, Try.results9, go_sem]) rfl ⟨u, by rw [hf], hu.mono hS1.size, hS1.trans ((hS4 _ (hS3 _ hS2)).mono hS1.size)⟩
  · have hA : sortA l = [] := if_neg hf
    rw [hA]
    go_enter Try.func9, Try.ntmps9
    go_wp2_with fail
    refine (fineC cap w h).mono ?_
    rintro e w1 ⟨rfl, hS1⟩
    have t1 : (fineS l != 0) = true := by simpa using hf
    go_wp2_with fail
    exact bodyPost_ret (v := .tuple #[.slice none 0 0, .int .i64 (fineS l)]) (by simp [results, Try.results9, go_sem]) rfl ⟨_, rfl, OwnS.nil _ _, hS1⟩
end QSd
end Go.Proofs.Ytocelepohkbooaa
