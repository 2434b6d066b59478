/- Trees of nodes by numbers, plainly: mending, from a node up. No condition. -/
import Derived.Test.YtbcjnckejkjfeaaTrL
namespace Go.NP
set_option linter.unusedVariables false
set_option linter.unusedSimpArgs false
namespace TrP
open Tr Cx
/-- A node whose two are reckoned, and the way up from it. -/
structure MendSt (m : M) (top_ : Int) (c : Cx) (i : Int) (l r : Tr) : Prop where
  rep : Rep m c.up (node i l r)
  repc : RepC m c i
  fl : Fit m l
  fr : Fit m r
  fc : FitC m c
  top_is : top_ = c.root i
  ap : Apart c (node i l r).all
/-- One round: the node reckoned anew, and turned. -/
def mend1 (m : M) (top_ i : Int) : M × Int × Int :=
  let m1 := again m i
  let d := (m1 (m1 i).r).h - (m1 (m1 i).l).h
  if d > 1 then ((liftM m1 top_ i (m1 i).r).1, (liftM m1 top_ i (m1 i).r).2, (m1 i).r)
  else if d < -1 then ((liftM m1 top_ i (m1 i).l).1, (liftM m1 top_ i (m1 i).l).2, (m1 i).l)
  else (m1, top_, i)
theorem Fit.frameA {m : M} {i : Int} {t : Tr} (h : Fit m t) (hi : i ∉ t.all) : Fit (again m i) t := h.keep fun j hj => again_ne fun e => hi (by rw [← e]; exact hj)
structure Mended (m m' : M) (c : Cx) (t t' : Tr) : Prop where
  rep : Rep m' c.up t'
  repc : RepC m' c t'.ix
  fit : Fit m' t'
  fc : FitC m' c
  same : Same m m'
  all : t'.all.Perm t.all
  lv : t'.lv.Perm t.lv
  out : ∀ k, k ∉ t.all → k ∉ c.all → m' k = m k
/-- Balance ahead of a round: a node's two, and how high it was before one of them was changed. -/
def Pre (l r : Tr) (H : Int) : Prop := l.Bal ∧ r.Bal ∧ ∃ hl hr : Int, H = 1 + max hl hr ∧ hl ≤ hr + 1 ∧ hr ≤ hl + 1 ∧ (hl = l.hgt ∧ hr ≤ r.hgt + 1 ∧ r.hgt ≤ hr + 1 ∨ hr = r.hgt ∧ hl ≤ l.hgt + 1 ∧ l.hgt ≤ hl + 1 ∨ hl = -1 ∧ hr = -1 ∧ l.hgt = 0 ∧ r.hgt = 0)
/-- Balance around a hole, in which there was a tree so high. -/
def BalC : Cx → Int → Prop
  | top, _ => True
  | inl _ c r, H => r.Bal ∧ H ≤ r.hgt + 1 ∧ r.hgt ≤ H + 1 ∧ BalC c (1 + max H r.hgt)
  | inr _ l c, H => l.Bal ∧ H ≤ l.hgt + 1 ∧ l.hgt ≤ H + 1 ∧ BalC c (1 + max l.hgt H)
/-- What the walk of a round asks for. -/
structure MendOK (m : M) (top_ i : Int) (S : List Int) : Prop where
  kids : Kids2 m i S
  kid1 : Kids2 (again m i) i S
  me : i ∈ S
  up : (again m i i).u = -1 ∨ (again m i i).u ∈ S
  right : (again m i (again m i i).r).h - (again m i (again m i i).l).h > 1 → LiftOK (again m i) top_ i (again m i i).r S
  left : (again m i (again m i i).r).h - (again m i (again m i i).l).h < -1 → LiftOK (again m i) top_ i (again m i i).l S
theorem perm5 {α : Type} (a b : α) (L A B : List α) : (b :: ((a :: (L ++ A)) ++ B)).Perm (a :: b :: (L ++ (A ++ B))) := by
  refine List.Perm.trans (List.Perm.cons b ?_) (List.Perm.swap a b _)
  rw [List.cons_append, List.append_assoc]
theorem mend1_ok {m : M} {top_ : Int} {c : Cx} {i : Int} {l r : Tr} (h : MendSt m top_ c i l r) : ∃ m' t', mend1 m top_ i = (m', c.root t'.ix, t'.ix) ∧ Mended m m' c (node i l r) t' ∧ MendOK m top_ i ((node i l r).all ++ c.all) ∧ ∀ H, Pre l r H → t'.Bal ∧ t'.hgt ≤ H + 1 ∧ H ≤ t'.hgt + 1 := by
  have hn := List.nodup_cons.1 h.ap.nd
  obtain ⟨nl, nr, nd⟩ := List.nodup_append.1 hn.2
  have il : i ∉ l.all := fun hj => hn.1 (List.mem_append_left _ hj)
  have ir : i ∉ r.all := fun hj => hn.1 (List.mem_append_right _ hj)
  have ic : i ∉ c.all := h.ap.dis i (List.mem_cons_self ..)
  have hf := again_fit h.rep h.fl h.fr h.ap.nd
  have hr1 := again_rep (j := i) h.rep
  have hc1 := again_repC (j := i) h.repc
  have hfc1 : FitC (again m i) c := h.fc.keep fun j hj => again_ne fun e => ic (by rw [← e]; exact hj)
  have hs1 : Same m (again m i) := again_same h.rep.2.1
  have ho1 : ∀ k, k ∉ (node i l r).all → k ∉ c.all → again m i k = m k := fun k h1 _ => again_ne fun e => h1 (by rw [e]; exact List.mem_cons_self ..)
  have hat : (again m i i).l = l.ix ∧ (again m i i).r = r.ix := ⟨hr1.2.2.1, hr1.2.2.2.1⟩
  have hL := Fit.high hf.2.2.1
  have hR := Fit.high hf.2.2.2
  have kS : ∀ k ∈ (node i l r).all, k ∈ (node i l r).all ++ c.all := fun k hk => List.mem_append_left _ hk
  have kN : (node i l r).all.length ≤ ((node i l r).all ++ c.all).length := by rw [List.length_append]; omega
  have K0 : Kids2 m i ((node i l r).all ++ c.all) := Kids2.of h.rep h.fl h.fr kS kN
  have K1 : Kids2 (again m i) i ((node i l r).all ++ c.all) := Kids2.of hr1 hf.2.2.1 hf.2.2.2 kS kN
  have KM : i ∈ (node i l r).all ++ c.all := kS i (List.mem_cons_self ..)
  have KU : (again m i i).u = -1 ∨ (again m i i).u ∈ (node i l r).all ++ c.all := by
    have e : (again m i i).u = c.up := hr1.1
    rw [e]
    rcases up_in (c := c) with h | h
    · exact .inl h
    · exact .inr (List.mem_append_right _ h)
  have hgl := Fit.hgt hf.2.2.1
  have hgr := Fit.hgt hf.2.2.2
  suffices hh : ∃ m' t', mend1 m top_ i = (m', c.root t'.ix, t'.ix) ∧ Mended m m' c (node i l r) t' ∧ ((again m i r.ix).h - (again m i l.ix).h > 1 → LiftOK (again m i) top_ i r.ix ((node i l r).all ++ c.all)) ∧ ((again m i r.ix).h - (again m i l.ix).h < -1 → LiftOK (again m i) top_ i l.ix ((node i l r).all ++ c.all)) ∧ ∀ H, Pre l r H → t'.Bal ∧ t'.hgt ≤ H + 1 ∧ H ≤ t'.hgt + 1 by
    obtain ⟨m', t', h1, h2, h3, h4, h5⟩ := hh
    exact ⟨m', t', h1, h2, ⟨K0, K1, KM, KU, by rw [hat.1, hat.2]; exact h3, by rw [hat.1, hat.2]; exact h4⟩, h5⟩
  unfold mend1
  simp only [hat.1, hat.2]
  clear K0 K1 KM KU kS kN
  generalize again m i = m1 at *
  by_cases d1 : (m1 r.ix).h - (m1 l.ix).h > 1
  · rw [if_pos d1]
    obtain ⟨j, a, b, rfl⟩ := hf.2.2.2.two (by omega)
    have rr := hr1.2.2.2.2.2
    have ff := hf.2.2.2
    -- the lower and the higher one
    obtain ⟨lo, hi, hlo, hhi, Rlo, Rhi, Flo, Fhi, pA, pL, pH⟩ : ∃ lo hi : Tr, lowOf m1 j = lo.ix ∧ highOf m1 j = hi.ix ∧ Rep m1 j lo ∧ Rep m1 j hi ∧ Fit m1 lo ∧ Fit m1 hi ∧ (lo.all ++ hi.all).Perm (a.all ++ b.all) ∧ (lo.lv ++ hi.lv).Perm (a.lv ++ b.lv) ∧ (a.hgt ≤ b.hgt ∧ lo = a ∧ hi = b ∨ b.hgt ≤ a.hgt ∧ lo = b ∧ hi = a) := by
      have ha := Fit.hgt ff.2.2.1
      have hb := Fit.hgt ff.2.2.2
      unfold lowOf highOf
      rw [rr.2.2.1, rr.2.2.2.1]
      by_cases e : (m1 a.ix).h > (m1 b.ix).h
      · exact ⟨b, a, by rw [if_pos e], by rw [if_pos e], rr.2.2.2.2.2, rr.2.2.2.2.1, ff.2.2.2, ff.2.2.1, List.perm_append_comm, List.perm_append_comm, .inr ⟨by omega, rfl, rfl⟩⟩
      · exact ⟨a, b, by rw [if_neg e], by rw [if_neg e], rr.2.2.2.2.1, rr.2.2.2.2.2, ff.2.2.1, ff.2.2.2, List.Perm.refl _, List.Perm.refl _, .inl ⟨by omega, rfl, rfl⟩⟩
    have pm : (i :: j :: (l.all ++ (lo.all ++ hi.all))).Perm (node i l (node j a b)).all := by
      refine List.Perm.cons i ?_
      refine List.Perm.trans ?_ (List.perm_middle (l₁ := l.all) (a := j) (l₂ := a.all ++ b.all)).symm
      exact List.Perm.cons j (List.Perm.append_left _ pA)
    have ap : Apart c (i :: j :: (l.all ++ (lo.all ++ hi.all))) := ⟨pm.nodup_iff.2 h.ap.nd, h.ap.nc, fun k hk => h.ap.dis k (pm.mem_iff.1 hk), fun k hk => h.ap.pos k (pm.mem_iff.1 hk), h.ap.posc⟩
    obtain ⟨m', e, q1, q2, q3, q4, q5, q6, q7⟩ := lift_r hr1.1 hr1.2.1 hat.1 hat.2 rr.2.1 hr1.2.2.2.2.1 Rlo Rhi hf.2.2.1 Flo Fhi hc1 ap hlo hhi
    rw [h.top_is]
    show ∃ m' t', ((liftM m1 (c.root i) i j).1, (liftM m1 (c.root i) i j).2, j) = _ ∧ _
    have pS : ∀ k ∈ i :: j :: (l.all ++ (lo.all ++ hi.all)), k ∈ (node i l (node j a b)).all ++ c.all := fun k hk => List.mem_append_left _ (pm.mem_iff.1 hk)
    have pN : (i :: j :: (l.all ++ (lo.all ++ hi.all))).length ≤ ((node i l (node j a b)).all ++ c.all).length := by rw [List.length_append, pm.length_eq]; omega
    have e' : liftM m1 (c.root i) i j = (m', c.root j) := e
    rw [e']
    refine ⟨m', node j (node i l lo) hi, rfl, ⟨q1, q2, q3, q4 hfc1, hs1.trans q5, (perm5 i j l.all lo.all hi.all).trans pm, ?_, fun k h1 h2 => (q6 k (fun hk => h1 (pm.mem_iff.1 hk)) h2).trans (ho1 k h1 h2)⟩, fun _ => q7.mono pS pN, fun hx => absurd hx (by omega), fun H hP => ?_⟩
    rotate_left
    · obtain ⟨bl, br, hl, hr, e1, e2, e3, e4⟩ := hP
      have d1' : 1 < (node j a b).hgt - l.hgt := by rw [← hgl, ← hgr]; exact d1
      obtain ⟨b1, b2, b3, b4⟩ := br
      clear hgl hgr d1
      rcases pH with ⟨o1, rfl, rfl⟩ | ⟨o1, rfl, rfl⟩
      · simp only [hgt] at *
        exact ⟨⟨⟨bl, b1, by omega, by omega⟩, b2, by simp only [hgt]; omega, by simp only [hgt]; omega⟩, by omega, by omega⟩
      · simp only [hgt] at *
        exact ⟨⟨⟨bl, b2, by omega, by omega⟩, b1, by simp only [hgt]; omega, by simp only [hgt]; omega⟩, by omega, by omega⟩
    show ((l.lv ++ lo.lv) ++ hi.lv).Perm (l.lv ++ (a.lv ++ b.lv))
    rw [List.append_assoc]
    exact List.Perm.append_left _ pL
  · rw [if_neg d1]
    by_cases d2 : (m1 r.ix).h - (m1 l.ix).h < -1
    · rw [if_pos d2]
      obtain ⟨j, a, b, rfl⟩ := hf.2.2.1.two (by omega)
      have rr := hr1.2.2.2.2.1
      have ff := hf.2.2.1
      obtain ⟨lo, hi, hlo, hhi, Rlo, Rhi, Flo, Fhi, pA, pL, pH⟩ : ∃ lo hi : Tr, lowOf m1 j = lo.ix ∧ highOf m1 j = hi.ix ∧ Rep m1 j lo ∧ Rep m1 j hi ∧ Fit m1 lo ∧ Fit m1 hi ∧ (lo.all ++ hi.all).Perm (a.all ++ b.all) ∧ (lo.lv ++ hi.lv).Perm (a.lv ++ b.lv) ∧ (a.hgt ≤ b.hgt ∧ lo = a ∧ hi = b ∨ b.hgt ≤ a.hgt ∧ lo = b ∧ hi = a) := by
        have ha := Fit.hgt ff.2.2.1
        have hb := Fit.hgt ff.2.2.2
        unfold lowOf highOf
        rw [rr.2.2.1, rr.2.2.2.1]
        by_cases e : (m1 a.ix).h > (m1 b.ix).h
        · exact ⟨b, a, by rw [if_pos e], by rw [if_pos e], rr.2.2.2.2.2, rr.2.2.2.2.1, ff.2.2.2, ff.2.2.1, List.perm_append_comm, List.perm_append_comm, .inr ⟨by omega, rfl, rfl⟩⟩
        · exact ⟨a, b, by rw [if_neg e], by rw [if_neg e], rr.2.2.2.2.1, rr.2.2.2.2.2, ff.2.2.1, ff.2.2.2, List.Perm.refl _, List.Perm.refl _, .inl ⟨by omega, rfl, rfl⟩⟩
      have pm : (i :: j :: (r.all ++ (lo.all ++ hi.all))).Perm (node i (node j a b) r).all := by
        refine List.Perm.cons i ?_
        show (j :: (r.all ++ (lo.all ++ hi.all))).Perm (j :: (a.all ++ b.all) ++ r.all)
        rw [List.cons_append]
        exact List.Perm.cons j (List.perm_append_comm.trans (List.Perm.append_right _ pA))
      have ap : Apart c (i :: j :: (r.all ++ (lo.all ++ hi.all))) := ⟨pm.nodup_iff.2 h.ap.nd, h.ap.nc, fun k hk => h.ap.dis k (pm.mem_iff.1 hk), fun k hk => h.ap.pos k (pm.mem_iff.1 hk), h.ap.posc⟩
      obtain ⟨m', e, q1, q2, q3, q4, q5, q6, q7⟩ := lift_l hr1.1 hr1.2.1 hat.2 hat.1 rr.2.1 hr1.2.2.2.2.2 Rlo Rhi hf.2.2.2 Flo Fhi hc1 ap hlo hhi
      rw [h.top_is]
      show ∃ m' t', ((liftM m1 (c.root i) i j).1, (liftM m1 (c.root i) i j).2, j) = _ ∧ _
      have pS : ∀ k ∈ i :: j :: (r.all ++ (lo.all ++ hi.all)), k ∈ (node i (node j a b) r).all ++ c.all := fun k hk => List.mem_append_left _ (pm.mem_iff.1 hk)
      have pN : (i :: j :: (r.all ++ (lo.all ++ hi.all))).length ≤ ((node i (node j a b) r).all ++ c.all).length := by rw [List.length_append, pm.length_eq]; omega
      have e' : liftM m1 (c.root i) i j = (m', c.root j) := e
      rw [e']
      refine ⟨m', node j (node i lo r) hi, rfl, ⟨q1, q2, q3, q4 hfc1, hs1.trans q5, ?_, ?_, fun k h1 h2 => (q6 k (fun hk => h1 (pm.mem_iff.1 hk)) h2).trans (ho1 k h1 h2)⟩, fun hx => absurd hx d1, fun _ => q7.mono pS pN, fun H hP => ?_⟩
      rotate_left 2
      · obtain ⟨bl, br, hl, hr, e1, e2, e3, e4⟩ := hP
        have d1' : 1 < (node j a b).hgt - r.hgt := by rw [← hgl, ← hgr]; omega
        obtain ⟨b1, b2, b3, b4⟩ := bl
        clear hgl hgr d1 d2
        rcases pH with ⟨o1, rfl, rfl⟩ | ⟨o1, rfl, rfl⟩
        · simp only [hgt] at *
          exact ⟨⟨⟨b1, br, by omega, by omega⟩, b2, by simp only [hgt]; omega, by simp only [hgt]; omega⟩, by omega, by omega⟩
        · simp only [hgt] at *
          exact ⟨⟨⟨b2, br, by omega, by omega⟩, b1, by simp only [hgt]; omega, by simp only [hgt]; omega⟩, by omega, by omega⟩
      · refine List.Perm.trans ?_ pm
        refine List.Perm.trans ?_ (perm5 i j r.all lo.all hi.all)
        refine List.Perm.cons j (List.Perm.append_right _ (List.Perm.cons i List.perm_append_comm))
      · show ((lo.lv ++ r.lv) ++ hi.lv).Perm ((a.lv ++ b.lv) ++ r.lv)
        rw [List.append_assoc]
        refine (List.Perm.append_left lo.lv List.perm_append_comm).trans ?_
        rw [← List.append_assoc]
        exact List.Perm.append_right _ pL
    · rw [if_neg d2, h.top_is]
      refine ⟨m1, node i l r, rfl, ⟨hr1, hc1, hf, hfc1, hs1, List.Perm.refl _, List.Perm.refl _, ho1⟩, fun hx => absurd hx d1, fun hx => absurd hx d2, fun H hP => ?_⟩
      obtain ⟨bl, br, hl, hr, e1, e2, e3, e4⟩ := hP
      rw [hgl, hgr] at d1 d2
      clear hgl hgr
      simp only [hgt]
      exact ⟨⟨bl, br, by omega, by omega⟩, by omega, by omega⟩
theorem MendOK.mono {m : M} {top_ i : Int} {S S' : List Int} (h : MendOK m top_ i S) (hS : ∀ k ∈ S, k ∈ S') (hn : S.length ≤ S'.length) : MendOK m top_ i S' :=
  ⟨h.kids.mono hS hn, h.kid1.mono hS hn, hS _ h.me, h.up.imp id (hS _), fun hx => (h.right hx).mono hS hn, fun hx => (h.left hx).mono hS hn⟩
/-- While the tree is mended: k rounds are left. -/
structure Kept (m0 m : M) (all0 : List Int) : Prop where
  same : Same m0 m
  out : ∀ k, k ∉ all0 → m k = m0 k
def MI (m0 m : M) (top_ at_ : Int) (k : Nat) (all0 lv0 : List Int) : Prop :=
  Kept m0 m all0 ∧ ((at_ = -1 ∧ k = 0 ∧ ∃ T, Rep m (-1) T ∧ Fit m T ∧ T.all.Perm all0 ∧ T.lv.Perm lv0 ∧ top_ = T.ix ∧ T.Bal) ∨
    ∃ c i l r, at_ = i ∧ k = c.len + 1 ∧ MendSt m top_ c i l r ∧ (∃ H, Pre l r H ∧ BalC c H) ∧ ((node i l r).all ++ c.all).Perm all0 ∧ ((node i l r).lv ++ c.lv).Perm lv0)
theorem Apart.node_l {c : Cx} {i : Int} {t r : Tr} {L : List Int} (h : Apart (inl i c r) L) (hp : t.all.Perm L) : Apart c (node i t r).all := by
  have hc := List.nodup_cons.1 h.nc
  obtain ⟨h1, h2, h3⟩ := List.nodup_append.1 hc.2
  refine ⟨List.nodup_cons.2 ⟨fun hm => ?_, List.nodup_append.2 ⟨hp.nodup_iff.2 h.nd, h1, fun a ha b hb e => ?_⟩⟩, h2, fun a ha => ?_, fun a ha => ?_, fun a ha => h.posc a (List.mem_cons_of_mem _ (List.mem_append_right _ ha))⟩
  · rcases List.mem_append.1 hm with hm | hm
    · exact h.dis i (hp.mem_iff.1 hm) (List.mem_cons_self ..)
    · exact hc.1 (List.mem_append_left _ hm)
  · subst e; exact h.dis a (hp.mem_iff.1 ha) (List.mem_cons_of_mem _ (List.mem_append_left _ hb))
  · rcases List.mem_cons.1 ha with rfl | ha
    · exact fun hm => hc.1 (List.mem_append_right _ hm)
    · rcases List.mem_append.1 ha with ha | ha
      · exact fun hm => h.dis a (hp.mem_iff.1 ha) (List.mem_cons_of_mem _ (List.mem_append_right _ hm))
      · exact fun hm => h3 a ha a hm rfl
  · rcases List.mem_cons.1 ha with rfl | ha
    · exact h.posc a (List.mem_cons_self ..)
    · rcases List.mem_append.1 ha with ha | ha
      · exact h.pos a (hp.mem_iff.1 ha)
      · exact h.posc a (List.mem_cons_of_mem _ (List.mem_append_left _ ha))
theorem Apart.node_r {c : Cx} {i : Int} {t l : Tr} {L : List Int} (h : Apart (inr i l c) L) (hp : t.all.Perm L) : Apart c (node i l t).all := by
  have := Apart.node_l (c := c) (i := i) (r := l) (t := t) (L := L) ⟨h.nd, h.nc, h.dis, h.pos, h.posc⟩ hp
  have pm : (node i l t).all.Perm (node i t l).all := List.Perm.cons i List.perm_append_comm
  exact ⟨pm.nodup_iff.2 this.nd, this.nc, fun k hk => this.dis k (pm.mem_iff.1 hk), fun k hk => this.pos k (pm.mem_iff.1 hk), this.posc⟩
theorem MI.step {m0 m : M} {top_ at_ : Int} {k : Nat} {all0 lv0 : List Int} (h : MI m0 m top_ at_ k all0 lv0) (hne : at_ ≠ -1) :
    ∃ k', k = k' + 1 ∧ MI m0 (mend1 m top_ at_).1 (mend1 m top_ at_).2.1 ((mend1 m top_ at_).1 (mend1 m top_ at_).2.2).u k' all0 lv0 ∧ MendOK m top_ at_ all0 := by
  obtain ⟨hK, ⟨h1, _⟩ | ⟨c, _, l, r, rfl, hk, hM, ⟨H, hB, hBC⟩, hA, hL⟩⟩ := h
  · exact absurd h1 hne
  obtain ⟨m', t', e, q, hO, hBal⟩ := mend1_ok hM
  obtain ⟨tb, th1, th2⟩ := hBal H hB
  rw [e]
  refine ⟨c.len, hk, ?_, hO.mono (fun k hk => hA.mem_iff.1 hk) (Nat.le_of_eq hA.length_eq)⟩
  refine ⟨⟨hK.same.trans q.same, fun j hj => ?_⟩, ?_⟩
  · rw [← hK.out j hj]
    exact q.out j (fun hm => hj (hA.mem_iff.1 (List.mem_append_left _ hm))) (fun hm => hj (hA.mem_iff.1 (List.mem_append_right _ hm)))
  · show (((m' t'.ix).u = -1 ∧ c.len = 0 ∧ _) ∨ _)
    rw [q.rep.up]
    cases c with
    | top =>
      refine .inl ⟨rfl, rfl, t', q.rep, q.fit, ?_, ?_, rfl, tb⟩
      · refine q.all.trans ?_
        simpa [Cx.all] using hA
      · refine q.lv.trans ?_
        simpa [Cx.lv] using hL
    | inl j c r2 =>
      refine .inr ⟨c, j, t', r2, rfl, rfl, ⟨?_, q.repc.2.2.2.2.2, q.fit, q.fc.1, q.fc.2, rfl, hM.ap.node_l q.all⟩, ⟨_, ⟨tb, hBC.1, H, r2.hgt, rfl, hBC.2.1, hBC.2.2.1, .inr (.inl ⟨rfl, by omega, by omega⟩)⟩, hBC.2.2.2⟩, ?_, ?_⟩
      · exact ⟨q.repc.1, q.repc.2.1, q.repc.2.2.1, q.repc.2.2.2.1, q.rep, q.repc.2.2.2.2.1⟩
      · refine List.Perm.trans ?_ hA
        show ((j :: (t'.all ++ r2.all)) ++ c.all).Perm ((node at_ l r).all ++ (j :: (r2.all ++ c.all)))
        refine List.Perm.trans ?_ (List.perm_middle (l₁ := (node at_ l r).all) (a := j) (l₂ := r2.all ++ c.all)).symm
        rw [List.cons_append, List.append_assoc]
        exact List.Perm.cons j (List.Perm.append_right _ q.all)
      · refine List.Perm.trans ?_ hL
        show ((t'.lv ++ r2.lv) ++ c.lv).Perm ((node at_ l r).lv ++ (r2.lv ++ c.lv))
        rw [List.append_assoc]
        exact List.Perm.append_right _ q.lv
    | inr j l2 c =>
      refine .inr ⟨c, j, l2, t', rfl, rfl, ⟨?_, q.repc.2.2.2.2.2, q.fc.1, q.fit, q.fc.2, rfl, hM.ap.node_r q.all⟩, ⟨_, ⟨hBC.1, tb, l2.hgt, H, rfl, hBC.2.2.1, hBC.2.1, .inl ⟨rfl, by omega, by omega⟩⟩, hBC.2.2.2⟩, ?_, ?_⟩
      · exact ⟨q.repc.1, q.repc.2.1, q.repc.2.2.1, q.repc.2.2.2.1, q.repc.2.2.2.2.1, q.rep⟩
      · refine List.Perm.trans ?_ hA
        show ((j :: (l2.all ++ t'.all)) ++ c.all).Perm ((node at_ l r).all ++ (j :: (l2.all ++ c.all)))
        refine List.Perm.trans ?_ (List.perm_middle (l₁ := (node at_ l r).all) (a := j) (l₂ := l2.all ++ c.all)).symm
        rw [List.cons_append]
        refine List.Perm.cons j ?_
        rw [← List.append_assoc]
        exact List.Perm.append_right _ (List.perm_append_comm.trans (List.Perm.append_right _ q.all))
      · refine List.Perm.trans ?_ hL
        show ((l2.lv ++ t'.lv) ++ c.lv).Perm ((node at_ l r).lv ++ (l2.lv ++ c.lv))
        rw [← List.append_assoc]
        exact List.Perm.append_right _ (List.perm_append_comm.trans (List.Perm.append_right _ q.lv))
end TrP
end Go.NP
