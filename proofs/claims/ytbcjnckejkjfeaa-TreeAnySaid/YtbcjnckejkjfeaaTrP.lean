/- Trees of nodes by numbers, plainly: what the program's steps do to them. No condition. -/
import Derived.Test.YtbcjnckejkjfeaaLaw2
namespace Go.NP
set_option linter.unusedVariables false
set_option linter.unusedSimpArgs false
/-- A node: a bound, or two nodes under one. -/
structure Nd where
  fat : Bd
  b : Bd
  n : Int
  u : Int
  l : Int
  r : Int
  h : Int
namespace TrP
abbrev M := Int → Nd
def st (m : M) (i : Int) (x : Nd) : M := fun k => if k = i then x else m k
theorem st_at (m : M) (i : Int) (x : Nd) : st m i x i = x := if_pos rfl
theorem st_ne {m : M} {i k : Int} {x : Nd} (h : k ≠ i) : st m i x k = m k := if_neg h
inductive Tr where
  | leaf (i : Int)
  | node (i : Int) (l r : Tr)
namespace Tr
def ix : Tr → Int
  | leaf i => i
  | node i _ _ => i
/-- All places. -/
def all : Tr → List Int
  | leaf i => [i]
  | node i l r => i :: (l.all ++ r.all)
/-- The leaves. -/
def lv : Tr → List Int
  | leaf i => [i]
  | node _ l r => l.lv ++ r.lv
theorem ix_all : ∀ t : Tr, t.ix ∈ t.all
  | leaf i => List.mem_singleton.2 rfl
  | node i l r => List.mem_cons_self ..
theorem lv_all : ∀ (t : Tr) (x : Int), x ∈ t.lv → x ∈ t.all
  | leaf i, x, h => h
  | node i l r, x, h => by
    rcases List.mem_append.1 h with h | h
    · exact List.mem_cons_of_mem _ (List.mem_append_left _ (lv_all l x h))
    · exact List.mem_cons_of_mem _ (List.mem_append_right _ (lv_all r x h))
end Tr
open Tr
/-- The nodes hang as the tree says; u: what hangs above. -/
def Rep (m : M) : Int → Tr → Prop
  | u, leaf i => (m i).u = u ∧ 1 ≤ (m i).n
  | u, node i l r => (m i).u = u ∧ (m i).n = 0 ∧ (m i).l = l.ix ∧ (m i).r = r.ix ∧ Rep m i l ∧ Rep m i r
/-- What a node holds, and its height, are reckoned. -/
def Fit (m : M) : Tr → Prop
  | leaf i => (m i).h = 0 ∧ holds (m i).fat (m i).b = true
  | node i l r => (m i).fat = join (m l.ix).fat (m r.ix).fat ∧ (m i).h = 1 + max (m l.ix).h (m r.ix).h ∧ Fit m l ∧ Fit m r
theorem Rep.up {m : M} {u : Int} : ∀ {t : Tr}, Rep m u t → (m t.ix).u = u
  | leaf i, h => h.1
  | node i l r, h => h.1
theorem Rep.frame {m m' : M} : ∀ {t : Tr} {u : Int}, (∀ i ∈ t.all, m' i = m i) → Rep m u t → Rep m' u t
  | leaf i, u, he, h => by
    have := he i (List.mem_singleton.2 rfl)
    unfold Rep at *
    rw [this]; exact h
  | node i l r, u, he, h => by
    have h0 := he i (List.mem_cons_self ..)
    unfold Rep at *
    rw [h0]
    exact ⟨h.1, h.2.1, h.2.2.1, h.2.2.2.1, Rep.frame (fun j hj => he j (List.mem_cons_of_mem _ (List.mem_append_left _ hj))) h.2.2.2.2.1, Rep.frame (fun j hj => he j (List.mem_cons_of_mem _ (List.mem_append_right _ hj))) h.2.2.2.2.2⟩
theorem Fit.frame {m m' : M} : ∀ {t : Tr}, (∀ i ∈ t.all, (m' i).fat = (m i).fat ∧ (m' i).b = (m i).b ∧ (m' i).h = (m i).h) → Fit m t → Fit m' t
  | leaf i, he, h => by
    have := he i (List.mem_singleton.2 rfl)
    unfold Fit at *
    rw [this.1, this.2.1, this.2.2]; exact h
  | node i l r, he, h => by
    have h0 := he i (List.mem_cons_self ..)
    have hl := he l.ix (List.mem_cons_of_mem _ (List.mem_append_left _ l.ix_all))
    have hr := he r.ix (List.mem_cons_of_mem _ (List.mem_append_right _ r.ix_all))
    unfold Fit at *
    rw [h0.1, h0.2.2, hl.1, hl.2.2, hr.1, hr.2.2]
    exact ⟨h.1, h.2.1, Fit.frame (fun j hj => he j (List.mem_cons_of_mem _ (List.mem_append_left _ hj))) h.2.2.1, Fit.frame (fun j hj => he j (List.mem_cons_of_mem _ (List.mem_append_right _ hj))) h.2.2.2⟩
/-- A tree hung under another node: only its top has turned. -/
theorem Rep.reup {m m' : M} {t : Tr} {u u' : Int} (h : Rep m u t) (hnd : t.all.Nodup) (he : ∀ i ∈ t.all, i ≠ t.ix → m' i = m i) (ht : m' t.ix = { m t.ix with u := u' }) : Rep m' u' t := by
  cases t with
  | leaf i => unfold Rep at *; simp only [ix] at ht; rw [ht]; exact ⟨rfl, h.2⟩
  | node i l r =>
    simp only [ix] at ht he
    unfold Rep at *
    rw [ht]
    have hn := List.nodup_cons.1 hnd
    exact ⟨rfl, h.2.1, h.2.2.1, h.2.2.2.1,
      Rep.frame (fun j hj => he j (List.mem_cons_of_mem _ (List.mem_append_left _ hj)) (fun e => hn.1 (by rw [← e]; exact List.mem_append_left _ hj))) h.2.2.2.2.1,
      Rep.frame (fun j hj => he j (List.mem_cons_of_mem _ (List.mem_append_right _ hj)) (fun e => hn.1 (by rw [← e]; exact List.mem_append_right _ hj))) h.2.2.2.2.2⟩
theorem Fit.ok {m : M} : ∀ {t : Tr}, Fit m t → (m t.ix).fat.ok
  | leaf i, h => (holds_iff.1 h.2).1
  | node i l r, h => by
    have hl := Fit.ok h.2.2.1; have hr := Fit.ok h.2.2.2
    show (m i).fat.ok
    rw [h.1]; exact join_isok hl hr
theorem holds_trans {a b c : Bd} (h1 : holds a b = true) (h2 : holds b c = true) : holds a c = true := by
  rw [holds_iff] at *
  obtain ⟨ha, hb, h3, h4⟩ := h1
  obtain ⟨_, hc, h5, h6⟩ := h2
  unfold Pt.le at *
  exact ⟨ha, hc, by omega, by omega⟩
/-- A node holds what is under it. -/
theorem Fit.under {m : M} : ∀ {t : Tr}, Fit m t → ∀ j ∈ t.lv, holds (m t.ix).fat (m j).b = true
  | leaf i, h, j, hj => by obtain rfl := List.mem_singleton.1 hj; exact h.2
  | node i l r, h, j, hj => by
    have hl := Fit.ok h.2.2.1; have hr := Fit.ok h.2.2.2
    show holds (m i).fat _ = true
    rw [h.1]
    rcases List.mem_append.1 hj with hj | hj
    · exact holds_trans (holds_join_l hl hr) (Fit.under h.2.2.1 j hj)
    · exact holds_trans (holds_join_r hl hr) (Fit.under h.2.2.2 j hj)
theorem Fit.high {m : M} : ∀ {t : Tr}, Fit m t → 0 ≤ (m t.ix).h
  | leaf i, h => by show 0 ≤ (m i).h; rw [h.1]; exact Int.le_refl _
  | node i l r, h => by
    have := Fit.high h.2.2.1
    show 0 ≤ (m i).h
    rw [h.2.1]; omega
/-- What is higher than nought is two. -/
theorem Fit.two {m : M} {t : Tr} (h : Fit m t) (hh : 0 < (m t.ix).h) : ∃ i l r, t = node i l r := by
  cases t with
  | leaf i => have := h.1; simp only [ix] at hh; omega
  | node i l r => exact ⟨i, l, r, rfl⟩
/-- A tree with a hole. -/
inductive Cx where
  | top
  | inl (i : Int) (c : Cx) (r : Tr)
  | inr (i : Int) (l : Tr) (c : Cx)
namespace Cx
def up : Cx → Int
  | top => -1
  | inl i _ _ => i
  | inr i _ _ => i
def all : Cx → List Int
  | top => []
  | inl i c r => i :: (r.all ++ c.all)
  | inr i l c => i :: (l.all ++ c.all)
def lv : Cx → List Int
  | top => []
  | inl _ c r => r.lv ++ c.lv
  | inr _ l c => l.lv ++ c.lv
def fill : Cx → Tr → Tr
  | top, t => t
  | inl i c r, t => c.fill (node i t r)
  | inr i l c, t => c.fill (node i l t)
/-- The whole's top, when k is in the hole. -/
def root : Cx → Int → Int
  | top, k => k
  | inl i c _, _ => c.root i
  | inr i _ c, _ => c.root i
def len : Cx → Nat
  | top => 0
  | inl _ c _ => c.len + 1
  | inr _ _ c => c.len + 1
end Cx
open Cx
/-- The nodes around the hole hang as the tree says; k is in the hole. -/
def RepC (m : M) : Cx → Int → Prop
  | top, _ => True
  | inl i c r, k => (m i).u = c.up ∧ (m i).n = 0 ∧ (m i).l = k ∧ (m i).r = r.ix ∧ Rep m i r ∧ RepC m c i
  | inr i l c, k => (m i).u = c.up ∧ (m i).n = 0 ∧ (m i).l = l.ix ∧ (m i).r = k ∧ Rep m i l ∧ RepC m c i
/-- What hangs beside the way up is reckoned. -/
def FitC (m : M) : Cx → Prop
  | top => True
  | inl _ c r => Fit m r ∧ FitC m c
  | inr _ l c => Fit m l ∧ FitC m c
theorem RepC.frame {m m' : M} : ∀ {c : Cx} {k : Int}, (∀ i ∈ c.all, m' i = m i) → RepC m c k → RepC m' c k
  | top, _, _, _ => trivial
  | inl i c r, k, he, h => by
    have h0 := he i (List.mem_cons_self ..)
    unfold RepC at *
    rw [h0]
    exact ⟨h.1, h.2.1, h.2.2.1, h.2.2.2.1, Rep.frame (fun j hj => he j (List.mem_cons_of_mem _ (List.mem_append_left _ hj))) h.2.2.2.2.1, RepC.frame (fun j hj => he j (List.mem_cons_of_mem _ (List.mem_append_right _ hj))) h.2.2.2.2.2⟩
  | inr i l c, k, he, h => by
    have h0 := he i (List.mem_cons_self ..)
    unfold RepC at *
    rw [h0]
    exact ⟨h.1, h.2.1, h.2.2.1, h.2.2.2.1, Rep.frame (fun j hj => he j (List.mem_cons_of_mem _ (List.mem_append_left _ hj))) h.2.2.2.2.1, RepC.frame (fun j hj => he j (List.mem_cons_of_mem _ (List.mem_append_right _ hj))) h.2.2.2.2.2⟩
theorem FitC.frame {m m' : M} : ∀ {c : Cx}, (∀ i ∈ c.all, (m' i).fat = (m i).fat ∧ (m' i).b = (m i).b ∧ (m' i).h = (m i).h) → FitC m c → FitC m' c
  | top, _, _ => trivial
  | inl i c r, he, h => ⟨Fit.frame (fun j hj => he j (List.mem_cons_of_mem _ (List.mem_append_left _ hj))) h.1, FitC.frame (fun j hj => he j (List.mem_cons_of_mem _ (List.mem_append_right _ hj))) h.2⟩
  | inr i l c, he, h => ⟨Fit.frame (fun j hj => he j (List.mem_cons_of_mem _ (List.mem_append_left _ hj))) h.1, FitC.frame (fun j hj => he j (List.mem_cons_of_mem _ (List.mem_append_right _ hj))) h.2⟩
theorem fill_all : ∀ (c : Cx) (t : Tr), (c.fill t).all.Perm (t.all ++ c.all)
  | top, t => by simp [fill, Cx.all]
  | inl i c r, t => by
    refine (fill_all c (node i t r)).trans ?_
    simp only [Tr.all, Cx.all, List.cons_append, List.append_assoc]
    exact (List.perm_middle (l₁ := t.all) (a := i) (l₂ := r.all ++ c.all)).symm
  | inr i l c, t => by
    refine (fill_all c (node i l t)).trans ?_
    simp only [Tr.all, Cx.all, List.cons_append, List.append_assoc]
    refine List.Perm.trans ?_ (List.perm_middle (l₁ := t.all) (a := i) (l₂ := l.all ++ c.all)).symm
    refine List.Perm.cons i ?_
    rw [← List.append_assoc, ← List.append_assoc]
    exact (List.perm_append_comm (l₁ := l.all) (l₂ := t.all)).append_right c.all
theorem fill_lv : ∀ (c : Cx) (t : Tr), (c.fill t).lv.Perm (t.lv ++ c.lv)
  | top, t => by simp [fill, Cx.lv]
  | inl i c r, t => by
    refine (fill_lv c (node i t r)).trans ?_
    simp only [Tr.lv, Cx.lv, List.append_assoc]
    exact List.Perm.refl _
  | inr i l c, t => by
    refine (fill_lv c (node i l t)).trans ?_
    simp only [Tr.lv, Cx.lv]
    rw [← List.append_assoc]
    exact (List.perm_append_comm (l₁ := l.lv) (l₂ := t.lv)).append_right c.lv
theorem fill_ix : ∀ (c : Cx) (t : Tr), (c.fill t).ix = c.root t.ix
  | top, t => rfl
  | inl i c r, t => fill_ix c (node i t r)
  | inr i l c, t => fill_ix c (node i l t)
/-- Hole and what is in it make the whole. -/
theorem rep_fill {m : M} : ∀ {c : Cx} {t : Tr}, RepC m c t.ix → Rep m c.up t → Rep m (-1) (c.fill t)
  | top, t, _, h => h
  | inl i c r, t, hc, h => rep_fill (c := c) (t := node i t r) hc.2.2.2.2.2 ⟨hc.1, hc.2.1, hc.2.2.1, hc.2.2.2.1, h, hc.2.2.2.2.1⟩
  | inr i l c, t, hc, h => rep_fill (c := c) (t := node i l t) hc.2.2.2.2.2 ⟨hc.1, hc.2.1, hc.2.2.1, hc.2.2.2.1, hc.2.2.2.2.1, h⟩
end TrP
end Go.NP
