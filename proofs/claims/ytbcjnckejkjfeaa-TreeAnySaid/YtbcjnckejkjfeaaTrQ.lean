/- Trees of nodes by numbers, plainly: reckoning anew, hanging another node in the place of one. No condition. -/
import Derived.Test.YtbcjnckejkjfeaaTrP
namespace Go.NP
set_option linter.unusedVariables false
set_option linter.unusedSimpArgs false
namespace TrP
open Tr Cx
/-- The same but for what is reckoned and how it hangs. -/
def Same (m m' : M) : Prop := ∀ i, (m' i).b = (m i).b ∧ (m' i).n = (m i).n ∧ ((m i).n ≠ 0 → (m' i).fat = (m i).fat)
theorem Same.refl (m : M) : Same m m := fun _ => ⟨rfl, rfl, fun _ => rfl⟩
theorem Same.trans {a b c : M} (h : Same a b) (k : Same b c) : Same a c := fun i => ⟨(k i).1.trans (h i).1, (k i).2.1.trans (h i).2.1, fun hn => ((k i).2.2 (by rw [(h i).2.1]; exact hn)).trans ((h i).2.2 hn)⟩
theorem same_st {m : M} {i : Int} {x : Nd} (hb : x.b = (m i).b) (hn : x.n = (m i).n) (hf : (m i).n ≠ 0 → x.fat = (m i).fat) : Same m (st m i x) := fun k => by
  by_cases e : k = i
  · subst e; rw [st_at]; exact ⟨hb, hn, hf⟩
  · rw [st_ne e]; exact ⟨rfl, rfl, fun _ => rfl⟩
def again (m : M) (i : Int) : M := st m i { m i with fat := join (m (m i).l).fat (m (m i).r).fat, h := 1 + max (m (m i).l).h (m (m i).r).h }
theorem again_ne {m : M} {i k : Int} (h : k ≠ i) : again m i k = m k := st_ne h
theorem again_at (m : M) (i : Int) : again m i i = { m i with fat := join (m (m i).l).fat (m (m i).r).fat, h := 1 + max (m (m i).l).h (m (m i).r).h } := st_at _ _ _
theorem again_same {m : M} {i : Int} (h : (m i).n = 0) : Same m (again m i) := same_st rfl rfl fun hn => absurd h hn
theorem again_rep {m : M} {j : Int} : ∀ {t : Tr} {u : Int}, Rep m u t → Rep (again m j) u t
  | leaf i, u, h => by
    unfold Rep at *
    by_cases e : i = j
    · subst e; rw [again_at]; exact h
    · rw [again_ne e]; exact h
  | node i l r, u, h => by
    unfold Rep at *
    have h5 := again_rep (j := j) h.2.2.2.2.1
    have h6 := again_rep (j := j) h.2.2.2.2.2
    by_cases e : i = j
    · subst e; rw [again_at]; exact ⟨h.1, h.2.1, h.2.2.1, h.2.2.2.1, h5, h6⟩
    · rw [again_ne e]; exact ⟨h.1, h.2.1, h.2.2.1, h.2.2.2.1, h5, h6⟩
theorem again_repC {m : M} {j : Int} : ∀ {c : Cx} {k : Int}, RepC m c k → RepC (again m j) c k
  | top, _, _ => trivial
  | inl i c r, k, h => by
    unfold RepC at *
    have h5 := again_rep (j := j) h.2.2.2.2.1
    have h6 := again_repC (j := j) h.2.2.2.2.2
    by_cases e : i = j
    · subst e; rw [again_at]; exact ⟨h.1, h.2.1, h.2.2.1, h.2.2.2.1, h5, h6⟩
    · rw [again_ne e]; exact ⟨h.1, h.2.1, h.2.2.1, h.2.2.2.1, h5, h6⟩
  | inr i l c, k, h => by
    unfold RepC at *
    have h5 := again_rep (j := j) h.2.2.2.2.1
    have h6 := again_repC (j := j) h.2.2.2.2.2
    by_cases e : i = j
    · subst e; rw [again_at]; exact ⟨h.1, h.2.1, h.2.2.1, h.2.2.2.1, h5, h6⟩
    · rw [again_ne e]; exact ⟨h.1, h.2.1, h.2.2.1, h.2.2.2.1, h5, h6⟩
theorem Fit.keep {m m' : M} {t : Tr} (h : Fit m t) (he : ∀ i ∈ t.all, m' i = m i) : Fit m' t := Fit.frame (fun i hi => by rw [he i hi]; exact ⟨rfl, rfl, rfl⟩) h
theorem FitC.keep {m m' : M} {c : Cx} (h : FitC m c) (he : ∀ i ∈ c.all, m' i = m i) : FitC m' c := FitC.frame (fun i hi => by rw [he i hi]; exact ⟨rfl, rfl, rfl⟩) h
/-- A node whose two are reckoned is reckoned anew. -/
theorem again_fit {m : M} {i : Int} {l r : Tr} {u : Int} (h : Rep m u (node i l r)) (hl : Fit m l) (hr : Fit m r) (hnd : (node i l r).all.Nodup) : Fit (again m i) (node i l r) := by
  have hn := List.nodup_cons.1 hnd
  have nl : ∀ j ∈ l.all, j ≠ i := fun j hj e => hn.1 (by rw [← e]; exact List.mem_append_left _ hj)
  have nr : ∀ j ∈ r.all, j ≠ i := fun j hj e => hn.1 (by rw [← e]; exact List.mem_append_right _ hj)
  unfold Fit
  rw [again_at, again_ne (nl _ l.ix_all), again_ne (nr _ r.ix_all), h.2.2.1, h.2.2.2.1]
  exact ⟨rfl, rfl, hl.keep fun j hj => again_ne (nl j hj), hr.keep fun j hj => again_ne (nr j hj)⟩
def _root_.Go.NP.Nd.setL (x : Nd) (k : Int) : Nd := { x with l := k }
def _root_.Go.NP.Nd.setR (x : Nd) (k : Int) : Nd := { x with r := k }
def _root_.Go.NP.Nd.setU (x : Nd) (k : Int) : Nd := { x with u := k }
/-- Another node hung in the place of one. -/
def change (m : M) (top up was now : Int) : M × Int :=
  let p : M × Int := if up = -1 then (m, now) else if (m up).l = was then (st m up ((m up).setL now), top) else (st m up ((m up).setR now), top)
  if now = -1 then p else (st p.1 now ((p.1 now).setU up), p.2)
/-- What the change does to the nodes around a hole. -/
structure Changed (m m' : M) (c : Cx) (now : Int) : Prop where
  rep : RepC m' c now
  at_ : m' now = (m now).setU c.up
  oth : ∀ i, i ≠ now → i ≠ c.up → m' i = m i
  upn : ∀ i, i ≠ now → (m' i).fat = (m i).fat ∧ (m' i).b = (m i).b ∧ (m' i).h = (m i).h ∧ (m' i).n = (m i).n ∧ (m' i).u = (m i).u
theorem change_top {m : M} {t0 was now : Int} (hn : now ≠ -1) : change m t0 (-1) was now = (st m now ((m now).setU (-1)), now) := by
  unfold change; simp [hn]
theorem change_l {m : M} {t0 i was now : Int} (hi : i ≠ -1) (hl : (m i).l = was) (hn : now ≠ -1) : change m t0 i was now = (st (st m i ((m i).setL now)) now ((st m i ((m i).setL now) now).setU i), t0) := by
  unfold change; simp [hn, hi, hl]
theorem change_r {m : M} {t0 i was now : Int} (hi : i ≠ -1) (hl : ¬ (m i).l = was) (hn : now ≠ -1) : change m t0 i was now = (st (st m i ((m i).setR now)) now ((st m i ((m i).setR now) now).setU i), t0) := by
  unfold change; simp [hn, hi, hl]
theorem change_hole {m : M} {c : Cx} {was now : Int} (h : RepC m c was) (hw : was ∉ c.all) (hk : now ∉ c.all) (hnd : c.all.Nodup) (hpos : ∀ i ∈ c.all, 0 ≤ i) (hn : 0 ≤ now) :
    ∃ m', change m (c.root was) c.up was now = (m', c.root now) ∧ Changed m m' c now := by
  have hn1 : now ≠ -1 := by omega
  cases c with
  | top => exact ⟨_, change_top hn1, trivial, st_at _ _ _, fun i h1 _ => st_ne h1, fun i h1 => by rw [st_ne h1]; exact ⟨rfl, rfl, rfl, rfl, rfl⟩⟩
  | inl i c r =>
    have hi : 0 ≤ i := hpos i (List.mem_cons_self ..)
    have hin : now ≠ i := fun e => hk (by rw [e]; exact List.mem_cons_self ..)
    have hnd' := List.nodup_cons.1 hnd
    obtain ⟨m', hm'⟩ : ∃ m', st (st m i ((m i).setL now)) now ((st m i ((m i).setL now) now).setU i) = m' := ⟨_, rfl⟩
    refine ⟨m', by rw [← hm']; exact change_l (show i ≠ -1 by omega) h.2.2.1 hn1, ?_⟩
    have ei : m' i = (m i).setL now := by rw [← hm', st_ne (fun e => hin e.symm), st_at]
    have en : m' now = (m now).setU i := by rw [← hm', st_at, st_ne hin]
    have eo : ∀ j, j ≠ now → j ≠ i → m' j = m j := fun j h1 h2 => by rw [← hm', st_ne h1, st_ne h2]
    have fr : ∀ j ∈ r.all ++ c.all, m' j = m j := fun j hj => eo j (fun e => hk (by rw [← e]; exact List.mem_cons_of_mem _ hj)) (fun e => hnd'.1 (by rw [← e]; exact hj))
    refine ⟨?_, en, eo, fun j h1 => ?_⟩
    · unfold RepC at h ⊢
      rw [ei]
      exact ⟨h.1, h.2.1, rfl, h.2.2.2.1, Rep.frame (fun j hj => fr j (List.mem_append_left _ hj)) h.2.2.2.2.1, RepC.frame (fun j hj => fr j (List.mem_append_right _ hj)) h.2.2.2.2.2⟩
    · by_cases e2 : j = i
      · subst e2; rw [ei]; exact ⟨rfl, rfl, rfl, rfl, rfl⟩
      · rw [eo j h1 e2]; exact ⟨rfl, rfl, rfl, rfl, rfl⟩
  | inr i l c =>
    have hi : 0 ≤ i := hpos i (List.mem_cons_self ..)
    have hin : now ≠ i := fun e => hk (by rw [e]; exact List.mem_cons_self ..)
    have hnd' := List.nodup_cons.1 hnd
    have hlw : ¬ (m i).l = was := fun e => hw (by
      rw [← e, h.2.2.1]
      exact List.mem_cons_of_mem _ (List.mem_append_left _ l.ix_all))
    obtain ⟨m', hm'⟩ : ∃ m', st (st m i ((m i).setR now)) now ((st m i ((m i).setR now) now).setU i) = m' := ⟨_, rfl⟩
    refine ⟨m', by rw [← hm']; exact change_r (show i ≠ -1 by omega) hlw hn1, ?_⟩
    have ei : m' i = (m i).setR now := by rw [← hm', st_ne (fun e => hin e.symm), st_at]
    have en : m' now = (m now).setU i := by rw [← hm', st_at, st_ne hin]
    have eo : ∀ j, j ≠ now → j ≠ i → m' j = m j := fun j h1 h2 => by rw [← hm', st_ne h1, st_ne h2]
    have fr : ∀ j ∈ l.all ++ c.all, m' j = m j := fun j hj => eo j (fun e => hk (by rw [← e]; exact List.mem_cons_of_mem _ hj)) (fun e => hnd'.1 (by rw [← e]; exact hj))
    refine ⟨?_, en, eo, fun j h1 => ?_⟩
    · unfold RepC at h ⊢
      rw [ei]
      exact ⟨h.1, h.2.1, h.2.2.1, rfl, Rep.frame (fun j hj => fr j (List.mem_append_left _ hj)) h.2.2.2.2.1, RepC.frame (fun j hj => fr j (List.mem_append_right _ hj)) h.2.2.2.2.2⟩
    · by_cases e2 : j = i
      · subst e2; rw [ei]; exact ⟨rfl, rfl, rfl, rfl, rfl⟩
      · rw [eo j h1 e2]; exact ⟨rfl, rfl, rfl, rfl, rfl⟩
end TrP
end Go.NP
