/- Trees of nodes by numbers, plainly: a leaf hung beside another one, a leaf taken off. No condition. Entries of a tree of bounds, rising by numbers: put, dropped, set; what is told of them. No condition. Slices of the document's entries, and those of one's own. No condition. The document's place of a number. Condition: the list is as told. A tree as it lies in memory: read, written field by field. No condition. Another node hung in the place of one: the walk. Condition: the nodes are there. -/
import Derived.Test.YtbcjnckejkjfeaaGreatQaf
import Derived.Test.YtbcjnckejkjfeaaGreatQae
import Derived.BigQuiet
import Derived.Lib.Hide
import Derived.Test.YtbcjnckejkjfeaaGreatChecked
import Derived.Test.YtbcjnckejkjfeaaGreatQag
import Derived.Deep.MidRow
namespace Go.NP
set_option linter.unusedVariables false
set_option linter.unusedSimpArgs false
namespace TrP
open Tr Cx
/-- What fits a hole is mended from the node above on. -/
theorem MI.of_hole {m0 m : M} {c : Cx} {t : Tr} {H : Int} {all0 lv0 : List Int} (hK : Kept m0 m all0) (hr : Rep m c.up t) (hc : RepC m c t.ix) (hf : Fit m t) (hfc : FitC m c) (ha : Apart c t.all) (hb : t.Bal) (hBC : BalC c H) (h1 : t.hgt ≤ H + 1) (h2 : H ≤ t.hgt + 1)
    (hA : (t.all ++ c.all).Perm all0) (hL : (t.lv ++ c.lv).Perm lv0) : MI m0 m (c.root t.ix) c.up c.len all0 lv0 := by
  refine ⟨hK, ?_⟩
  cases c with
  | top => exact .inl ⟨rfl, rfl, t, hr, hf, by simpa [Cx.all] using hA, by simpa [Cx.lv] using hL, rfl, hb⟩
  | inl j c r2 =>
    refine .inr ⟨c, j, t, r2, rfl, rfl, ⟨?_, hc.2.2.2.2.2, hf, hfc.1, hfc.2, rfl, ha.node_l (List.Perm.refl _)⟩, ⟨_, ⟨hb, hBC.1, H, r2.hgt, rfl, hBC.2.1, hBC.2.2.1, .inr (.inl ⟨rfl, by omega, by omega⟩)⟩, hBC.2.2.2⟩, ?_, ?_⟩
    · exact ⟨hc.1, hc.2.1, hc.2.2.1, hc.2.2.2.1, hr, hc.2.2.2.2.1⟩
    · refine List.Perm.trans ?_ hA
      show ((j :: (t.all ++ r2.all)) ++ c.all).Perm (t.all ++ (j :: (r2.all ++ c.all)))
      refine List.Perm.trans ?_ (List.perm_middle (l₁ := t.all) (a := j) (l₂ := r2.all ++ c.all)).symm
      rw [List.cons_append, List.append_assoc]
    · refine List.Perm.trans ?_ hL
      show ((t.lv ++ r2.lv) ++ c.lv).Perm (t.lv ++ (r2.lv ++ c.lv))
      rw [List.append_assoc]
  | inr j l2 c =>
    refine .inr ⟨c, j, l2, t, rfl, rfl, ⟨?_, hc.2.2.2.2.2, hfc.1, hf, hfc.2, rfl, ha.node_r (List.Perm.refl _)⟩, ⟨_, ⟨hBC.1, hb, l2.hgt, H, rfl, hBC.2.2.1, hBC.2.1, .inl ⟨rfl, by omega, by omega⟩⟩, hBC.2.2.2⟩, ?_, ?_⟩
    · exact ⟨hc.1, hc.2.1, hc.2.2.1, hc.2.2.2.1, hc.2.2.2.2.1, hr⟩
    · refine List.Perm.trans ?_ hA
      show ((j :: (l2.all ++ t.all)) ++ c.all).Perm (t.all ++ (j :: (l2.all ++ c.all)))
      refine List.Perm.trans ?_ (List.perm_middle (l₁ := t.all) (a := j) (l₂ := l2.all ++ c.all)).symm
      rw [List.cons_append]
      refine List.Perm.cons j ?_
      rw [← List.append_assoc]
      exact List.Perm.append_right _ List.perm_append_comm
    · refine List.Perm.trans ?_ hL
      show ((l2.lv ++ t.lv) ++ c.lv).Perm (t.lv ++ (l2.lv ++ c.lv))
      rw [← List.append_assoc]
      exact List.Perm.append_right _ List.perm_append_comm
/-- What is so at the end of the mending. -/
structure Whole (m : M) (top_ : Int) (al lv : List Int) (T : Tr) : Prop where
  rep : Rep m (-1) T
  fit : Fit m T
  bal : T.Bal
  top_is : top_ = T.ix
  all : T.all.Perm al
  lv : T.lv.Perm lv
theorem MI.end_ {m0 m : M} {top_ : Int} {k : Nat} {al lv : List Int} (h : MI m0 m top_ (-1) k al lv) : Kept m0 m al ∧ ∃ T, Whole m top_ al lv T := by
  obtain ⟨hK, ⟨_, _, T, h1, h2, h3, h4, h5, h6⟩ | ⟨c, i, l, r, hi, _, hM, _⟩⟩ := h
  · exact ⟨hK, T, h1, h2, h6, h5, h3, h4⟩
  · have := hM.ap.pos i (List.mem_cons_self ..)
    omega
/-- A place in the tree, and all around it. -/
structure Foc (m : M) (c : Cx) (s : Tr) : Prop where
  rep : Rep m c.up s
  repc : RepC m c s.ix
  fit : Fit m s
  fitc : FitC m c
  bal : s.Bal
  balc : BalC c s.hgt
  ap : Apart c s.all
theorem Foc.start {m : M} {t : Tr} (h1 : Rep m (-1) t) (h2 : Fit m t) (h3 : t.Bal) (h4 : t.all.Nodup) (h5 : ∀ i ∈ t.all, 0 ≤ i) : Foc m top t :=
  ⟨h1, trivial, h2, trivial, h3, trivial, ⟨h4, List.nodup_nil, fun _ _ h => (by cases h), h5, fun _ h => (by cases h)⟩⟩
theorem Foc.left {m : M} {c : Cx} {i : Int} {l r : Tr} (h : Foc m c (node i l r)) : Foc m (inl i c r) l := by
  obtain ⟨b1, b2, b3, b4⟩ := h.bal
  have nd := List.nodup_cons.1 h.ap.nd
  obtain ⟨n1, n2, n3⟩ := List.nodup_append.1 nd.2
  have mi : i ∈ (node i l r).all := List.mem_cons_self ..
  have ml : ∀ k ∈ l.all, k ∈ (node i l r).all := fun k hk => List.mem_cons_of_mem _ (List.mem_append_left _ hk)
  have mr : ∀ k ∈ r.all, k ∈ (node i l r).all := fun k hk => List.mem_cons_of_mem _ (List.mem_append_right _ hk)
  refine ⟨h.rep.2.2.2.2.1, ⟨h.rep.1, h.rep.2.1, h.rep.2.2.1, h.rep.2.2.2.1, h.rep.2.2.2.2.2, h.repc⟩, h.fit.2.2.1, ⟨h.fit.2.2.2, h.fitc⟩, b1, ⟨b2, b3, b4, h.balc⟩, ⟨n1, ?_, ?_, fun k hk => h.ap.pos k (ml k hk), ?_⟩⟩
  · refine List.nodup_cons.2 ⟨fun hm => ?_, List.nodup_append.2 ⟨n2, h.ap.nc, fun a ha b hb e => h.ap.dis a (mr a ha) (e ▸ hb)⟩⟩
    rcases List.mem_append.1 hm with hm | hm
    · exact nd.1 (List.mem_append_right _ hm)
    · exact h.ap.dis i mi hm
  · intro k hk hm
    rcases List.mem_cons.1 hm with e | hm
    · exact nd.1 (e ▸ List.mem_append_left _ hk)
    · rcases List.mem_append.1 hm with hm | hm
      · exact n3 k hk k hm rfl
      · exact h.ap.dis k (ml k hk) hm
  · intro k hk
    rcases List.mem_cons.1 hk with e | hm
    · exact h.ap.pos k (e ▸ mi)
    · rcases List.mem_append.1 hm with hm | hm
      · exact h.ap.pos k (mr k hm)
      · exact h.ap.posc k hm
theorem Foc.right {m : M} {c : Cx} {i : Int} {l r : Tr} (h : Foc m c (node i l r)) : Foc m (inr i l c) r := by
  obtain ⟨b1, b2, b3, b4⟩ := h.bal
  have nd := List.nodup_cons.1 h.ap.nd
  obtain ⟨n1, n2, n3⟩ := List.nodup_append.1 nd.2
  have mi : i ∈ (node i l r).all := List.mem_cons_self ..
  have ml : ∀ k ∈ l.all, k ∈ (node i l r).all := fun k hk => List.mem_cons_of_mem _ (List.mem_append_left _ hk)
  have mr : ∀ k ∈ r.all, k ∈ (node i l r).all := fun k hk => List.mem_cons_of_mem _ (List.mem_append_right _ hk)
  refine ⟨h.rep.2.2.2.2.2, ⟨h.rep.1, h.rep.2.1, h.rep.2.2.1, h.rep.2.2.2.1, h.rep.2.2.2.2.1, h.repc⟩, h.fit.2.2.2, ⟨h.fit.2.2.1, h.fitc⟩, b2, ⟨b1, b4, b3, h.balc⟩, ⟨n2, ?_, ?_, fun k hk => h.ap.pos k (mr k hk), ?_⟩⟩
  · refine List.nodup_cons.2 ⟨fun hm => ?_, List.nodup_append.2 ⟨n1, h.ap.nc, fun a ha b hb e => h.ap.dis a (ml a ha) (e ▸ hb)⟩⟩
    rcases List.mem_append.1 hm with hm | hm
    · exact nd.1 (List.mem_append_left _ hm)
    · exact h.ap.dis i mi hm
  · intro k hk hm
    rcases List.mem_cons.1 hm with e | hm
    · exact nd.1 (e ▸ List.mem_append_right _ hk)
    · rcases List.mem_append.1 hm with hm | hm
      · exact n3 k hm k hk rfl
      · exact h.ap.dis k (mr k hk) hm
  · intro k hk
    rcases List.mem_cons.1 hk with e | hm
    · exact h.ap.pos k (e ▸ mi)
    · rcases List.mem_append.1 hm with hm | hm
      · exact h.ap.pos k (ml k hm)
      · exact h.ap.posc k hm
theorem perm_left (i : Int) (c : Cx) (l r : Tr) : (l.all ++ (inl i c r).all).Perm ((node i l r).all ++ c.all) := by
  show (l.all ++ (i :: (r.all ++ c.all))).Perm ((i :: (l.all ++ r.all)) ++ c.all)
  refine List.perm_middle.trans ?_
  rw [List.cons_append, List.append_assoc]
theorem perm_right (i : Int) (c : Cx) (l r : Tr) : (r.all ++ (inr i l c).all).Perm ((node i l r).all ++ c.all) := by
  show (r.all ++ (i :: (l.all ++ c.all))).Perm ((i :: (l.all ++ r.all)) ++ c.all)
  refine List.perm_middle.trans ?_
  rw [List.cons_append, ← List.append_assoc]
  exact List.Perm.cons i (List.Perm.append_right _ List.perm_append_comm)
theorem plv_left (i : Int) (c : Cx) (l r : Tr) : (l.lv ++ (inl i c r).lv).Perm ((node i l r).lv ++ c.lv) := by
  show (l.lv ++ (r.lv ++ c.lv)).Perm ((l.lv ++ r.lv) ++ c.lv)
  rw [List.append_assoc]
theorem plv_right (i : Int) (c : Cx) (l r : Tr) : (r.lv ++ (inr i l c).lv).Perm ((node i l r).lv ++ c.lv) := by
  show (r.lv ++ (l.lv ++ c.lv)).Perm ((l.lv ++ r.lv) ++ c.lv)
  rw [← List.append_assoc]
  exact List.Perm.append_right _ List.perm_append_comm
/-- A leaf is found. -/
theorem Foc.find {m : M} {at_ : Int} : ∀ {s : Tr} {c : Cx}, Foc m c s → at_ ∈ s.lv → ∃ c', Foc m c' (leaf at_) ∧ c'.root at_ = c.root s.ix ∧ (at_ :: c'.all).Perm (s.all ++ c.all) ∧ (at_ :: c'.lv).Perm (s.lv ++ c.lv)
  | leaf i, c, h, hm => by obtain rfl := List.mem_singleton.1 hm; exact ⟨c, h, rfl, List.Perm.refl _, List.Perm.refl _⟩
  | node i l r, c, h, hm => by
    rcases List.mem_append.1 hm with hm | hm
    · obtain ⟨c', h1, h2, h3, h4⟩ := Foc.find h.left hm
      exact ⟨c', h1, h2, h3.trans (perm_left i c l r), h4.trans (plv_left i c l r)⟩
    · obtain ⟨c', h1, h2, h3, h4⟩ := Foc.find h.right hm
      exact ⟨c', h1, h2, h3.trans (perm_right i c l r), h4.trans (plv_right i c l r)⟩
theorem same_setU {m : M} {i k : Int} : Same m (st m i ((m i).setU k)) := same_st rfl rfl fun _ => rfl
theorem Changed.same {m m' : M} {c : Cx} {now : Int} (h : Changed m m' c now) : Same m m' := fun i => by
  by_cases e : i = now
  · subst e; rw [h.at_]; exact ⟨rfl, rfl, fun _ => rfl⟩
  · obtain ⟨h1, h2, h3, h4, h5⟩ := h.upn i e; exact ⟨h2, h4, fun _ => h1⟩
/-- A leaf hung beside another one. -/
theorem hang_ok {m : M} {c : Cx} {bs at_ bo : Int} {x : Nd} (hf : Foc m c (leaf bs)) (hat : at_ ≠ bs ∧ at_ ∉ c.all ∧ 0 ≤ at_) (hbo : bo ≠ bs ∧ bo ≠ at_ ∧ bo ∉ c.all ∧ 0 ≤ bo) (hx : x.n = 0 ∧ x.u = c.up ∧ x.l = bs ∧ x.r = at_)
    (hl : 1 ≤ (m at_).n ∧ (m at_).h = 0 ∧ holds (m at_).fat (m at_).b = true) :
    ∃ m2 m4, change (st m bo x) (c.root bs) c.up bs bo = (m2, c.root bo) ∧ st (st m2 bs ((m2 bs).setU bo)) at_ ((st m2 bs ((m2 bs).setU bo) at_).setU bo) = m4 ∧
      MI (st m bo x) m4 (c.root bo) bo (c.len + 1) (bo :: bs :: at_ :: c.all) (bs :: at_ :: c.lv) := by
  have bsc : bs ∉ c.all := hf.ap.dis bs (List.mem_singleton.2 rfl)
  have bs0 : 0 ≤ bs := hf.ap.pos bs (List.mem_singleton.2 rfl)
  obtain ⟨m1, hm1⟩ : ∃ m1, st m bo x = m1 := ⟨_, rfl⟩
  have e1 : ∀ k, k ≠ bo → m1 k = m k := fun k hk => by rw [← hm1, st_ne hk]
  have e1b : m1 bo = x := by rw [← hm1, st_at]
  rw [hm1]
  have hc1 : RepC m1 c bs := hf.repc.frame fun k hk => e1 k fun e => hbo.2.2.1 (e ▸ hk)
  obtain ⟨m2, h2, c2⟩ := change_hole (now := bo) hc1 bsc hbo.2.2.1 hf.ap.nc hf.ap.posc hbo.2.2.2
  obtain ⟨m4, hm4⟩ : ∃ m4, st (st m2 bs ((m2 bs).setU bo)) at_ ((st m2 bs ((m2 bs).setU bo) at_).setU bo) = m4 := ⟨_, rfl⟩
  refine ⟨m2, m4, h2, hm4, ?_⟩
  have upb : bs ≠ c.up := hf.ap.up (List.mem_singleton.2 rfl)
  have upa : at_ ≠ c.up := fun e => by
    rcases up_in (c := c) with h | h
    · have := hat.2.2; omega
    · exact hat.2.1 (e ▸ h)
  have m2s : m2 bs = m bs := by rw [c2.oth bs hbo.1.symm upb, e1 bs hbo.1.symm]
  have m2a : m2 at_ = m at_ := by rw [c2.oth at_ hbo.2.1.symm upa, e1 at_ hbo.2.1.symm]
  have m4s : m4 bs = (m bs).setU bo := by rw [← hm4, st_ne hat.1.symm, st_at, m2s]
  have m4a : m4 at_ = (m at_).setU bo := by rw [← hm4, st_at, st_ne hat.1, m2a]
  have m4o : ∀ k, k ≠ bs → k ≠ at_ → m4 k = m2 k := fun k h1 h2 => by rw [← hm4, st_ne h2, st_ne h1]
  have m4b : m4 bo = x.setU c.up := by rw [m4o bo hbo.1 hbo.2.1, c2.at_, e1b]
  have m4c : ∀ k ∈ c.all, m4 k = m2 k := fun k hk => m4o k (fun e => bsc (e ▸ hk)) (fun e => hat.2.1 (e ▸ hk))
  have frs : m4 bs = { m bs with u := bo } := m4s
  have hrl : 1 ≤ (m bs).n := hf.rep.2
  have hfl : (m bs).h = 0 ∧ holds (m bs).fat (m bs).b = true := hf.fit
  have S1 : Same m1 m4 := (c2.same.trans same_setU).trans (by rw [← hm4]; exact same_setU)
  have hup : ∀ k, k ≠ bo → k ∉ c.all → m2 k = m1 k := fun k h1 h3 => by
    cases c with
    | top =>
      have hb1 : bo ≠ -1 := by have := hbo.2.2.2; omega
      have := (change_top (m := m1) (t0 := Cx.root top bs) (was := bs) (now := bo) hb1).symm.trans h2
      have := congrArg Prod.fst this
      simp only at this
      rw [← this, st_ne h1]
    | inl i c r => exact c2.oth k h1 (fun e => h3 (e ▸ List.mem_cons_self ..))
    | inr i l c => exact c2.oth k h1 (fun e => h3 (e ▸ List.mem_cons_self ..))
  have O1 : ∀ k, k ∉ bo :: bs :: at_ :: c.all → m4 k = m1 k := fun k hk => by
    simp only [List.mem_cons, not_or] at hk
    rw [m4o k hk.2.1 hk.2.2.1, hup k hk.1 hk.2.2.2]
  have hfa : Fit m4 (leaf at_) := by
    show (m4 at_).h = 0 ∧ holds (m4 at_).fat (m4 at_).b = true
    rw [m4a]; exact hl.2
  have hfs : Fit m4 (leaf bs) := by
    show (m4 bs).h = 0 ∧ holds (m4 bs).fat (m4 bs).b = true
    rw [m4s]; exact hfl
  refine ⟨⟨S1, O1⟩, .inr ⟨c, bo, leaf bs, leaf at_, rfl, rfl, ⟨⟨?_, ?_, ?_, ?_, ⟨?_, ?_⟩, ⟨?_, ?_⟩⟩, c2.rep.frame m4c, hfs, hfa, hf.fitc.frame fun k hk => ?_, rfl, ?_⟩, ⟨0, ⟨trivial, trivial, -1, -1, by decide, by decide, by decide, .inr (.inr ⟨rfl, rfl, rfl, rfl⟩)⟩, hf.balc⟩, List.Perm.refl _, List.Perm.refl _⟩⟩
  · rw [m4b]; rfl
  · rw [m4b]; exact hx.1
  · rw [m4b]; exact hx.2.2.1
  · rw [m4b]; exact hx.2.2.2
  · show (m4 bs).u = bo; rw [m4s]; rfl
  · rw [m4s]; exact hrl
  · show (m4 at_).u = bo; rw [m4a]; rfl
  · rw [m4a]; exact hl.1
  · rw [m4c k hk]
    obtain ⟨h1, h3, h4, _, _⟩ := c2.upn k fun e => hbo.2.2.1 (e ▸ hk)
    rw [h1, h3, h4, e1 k fun e => hbo.2.2.1 (e ▸ hk)]
    exact ⟨rfl, rfl, rfl⟩
  · refine ⟨?_, hf.ap.nc, ?_, ?_, hf.ap.posc⟩
    · show [bo, bs, at_].Nodup
      simp [hbo.1, hbo.2.1, hat.1.symm]
    · intro k hk
      have : k = bo ∨ k = bs ∨ k = at_ := by simpa [Tr.all] using hk
      rcases this with rfl | rfl | rfl
      · exact hbo.2.2.1
      · exact bsc
      · exact hat.2.1
    · intro k hk
      have : k = bo ∨ k = bs ∨ k = at_ := by simpa [Tr.all] using hk
      rcases this with rfl | rfl | rfl
      · exact hbo.2.2.2
      · exact bs0
      · exact hat.2.2
theorem change_out {m m' : M} {c : Cx} {was now t1 t2 : Int} (h2 : change m t1 c.up was now = (m', t2)) (c2 : Changed m m' c now) (hn : 0 ≤ now) : ∀ k, k ≠ now → k ∉ c.all → m' k = m k := fun k h1 h3 => by
  cases c with
  | top =>
    have hb1 : now ≠ -1 := by omega
    have := (change_top (m := m) (t0 := t1) (was := was) (now := now) hb1).symm.trans h2
    have := congrArg Prod.fst this
    simp only at this
    rw [← this, st_ne h1]
  | inl i c r => exact c2.oth k h1 (fun e => h3 (e ▸ List.mem_cons_self ..))
  | inr i l c => exact c2.oth k h1 (fun e => h3 (e ▸ List.mem_cons_self ..))
/-- What hangs beside a leaf takes the place of the node above both. -/
theorem cut_ok {m : M} {c : Cx} {i : Int} {s : Tr} {H : Int} (hr : Rep m i s) (hc : RepC m c i) (hf : Fit m s) (hfc : FitC m c) (ha : Apart c s.all) (hi : i ∉ c.all) (hb : s.Bal) (hBC : BalC c H) (h1 : s.hgt ≤ H + 1) (h2 : H ≤ s.hgt + 1) :
    ∃ m2, change m (c.root i) c.up i s.ix = (m2, c.root s.ix) ∧ MI m m2 (c.root s.ix) c.up c.len (s.all ++ c.all) (s.lv ++ c.lv) := by
  have sc : s.ix ∉ c.all := ha.dis _ s.ix_all
  have s0 : 0 ≤ s.ix := ha.pos _ s.ix_all
  obtain ⟨m2, e2, c2⟩ := change_hole (now := s.ix) hc hi sc ha.nc ha.posc s0
  refine ⟨m2, e2, ?_⟩
  have so : ∀ k ∈ s.all, k ≠ s.ix → m2 k = m k := fun k hk hne => c2.oth k hne (ha.up hk)
  refine MI.of_hole ⟨c2.same, fun k hk => ?_⟩ (hr.reup ha.nd so c2.at_) c2.rep ?_ (hfc.frame fun k hk => ?_) ha hb hBC h1 h2 (List.Perm.refl _) (List.Perm.refl _)
  · simp only [List.mem_append, not_or] at hk
    exact change_out e2 c2 s0 k (fun e => hk.1 (e ▸ s.ix_all)) hk.2
  · refine hf.frame fun k hk => ?_
    by_cases e : k = s.ix
    · subst e; rw [c2.at_]; exact ⟨rfl, rfl, rfl⟩
    · rw [so k hk e]; exact ⟨rfl, rfl, rfl⟩
  · obtain ⟨h1, h3, h4, _, _⟩ := c2.upn k fun e => sc (e ▸ hk)
    exact ⟨h1, h3, h4⟩
/-- A leaf's place: the node above it, and what hangs beside. -/
theorem Foc.above {m : M} {c : Cx} {at_ : Int} (h : Foc m c (leaf at_)) : c = top ∨ ∃ c' s i, (m i).l + (m i).r - at_ = s.ix ∧ c.up = i ∧ (m i).u = c'.up ∧ Rep m i s ∧ RepC m c' i ∧ Fit m s ∧ FitC m c' ∧ Apart c' s.all ∧ i ∉ c'.all ∧ s.Bal ∧ (∃ H, BalC c' H ∧ s.hgt ≤ H + 1 ∧ H ≤ s.hgt + 1) ∧ c.root at_ = c'.root i ∧ c.all.Perm (i :: (s.all ++ c'.all)) ∧ c.lv = s.lv ++ c'.lv ∧ 0 ≤ i ∧ i ∉ s.all := by
  obtain ⟨hr, hc, hf, hfc, hb, hBC, ap⟩ := h
  cases c with
  | top => exact .inl rfl
  | inl i c r =>
    have nd := List.nodup_cons.1 ap.nc
    obtain ⟨n1, n2, n3⟩ := List.nodup_append.1 nd.2
    refine .inr ⟨c, r, i, ?_, rfl, hc.1, hc.2.2.2.2.1, hc.2.2.2.2.2, hfc.1, hfc.2, ⟨n1, n2, fun k hk hm => n3 k hk k hm rfl, fun k hk => ap.posc k (List.mem_cons_of_mem _ (List.mem_append_left _ hk)), fun k hk => ap.posc k (List.mem_cons_of_mem _ (List.mem_append_right _ hk))⟩, fun hm => nd.1 (List.mem_append_right _ hm), hBC.1, ⟨_, hBC.2.2.2, ?_, ?_⟩, rfl, List.Perm.refl _, rfl, ap.posc i (List.mem_cons_self ..), fun hm => nd.1 (List.mem_append_left _ hm)⟩
    · rw [hc.2.2.1, hc.2.2.2.1]; show at_ + r.ix - at_ = _; omega
    · have := r.hgt_lt; simp only [Tr.hgt]; omega
    · have := r.hgt_lt; have := hBC.2.2.1; simp only [Tr.hgt] at *; omega
  | inr i l c =>
    have nd := List.nodup_cons.1 ap.nc
    obtain ⟨n1, n2, n3⟩ := List.nodup_append.1 nd.2
    refine .inr ⟨c, l, i, ?_, rfl, hc.1, hc.2.2.2.2.1, hc.2.2.2.2.2, hfc.1, hfc.2, ⟨n1, n2, fun k hk hm => n3 k hk k hm rfl, fun k hk => ap.posc k (List.mem_cons_of_mem _ (List.mem_append_left _ hk)), fun k hk => ap.posc k (List.mem_cons_of_mem _ (List.mem_append_right _ hk))⟩, fun hm => nd.1 (List.mem_append_right _ hm), hBC.1, ⟨_, hBC.2.2.2, ?_, ?_⟩, rfl, List.Perm.refl _, rfl, ap.posc i (List.mem_cons_self ..), fun hm => nd.1 (List.mem_append_left _ hm)⟩
    · rw [hc.2.2.1, hc.2.2.2.1]; show l.ix + at_ - at_ = _; omega
    · have := l.hgt_lt; simp only [Tr.hgt]; omega
    · have := l.hgt_lt; have := hBC.2.2.1; simp only [Tr.hgt] at *; omega
end TrP
end Go.NP
namespace Go.NP
set_option linter.unusedVariables false
set_option linter.unusedSimpArgs false
structure En where
  n : Int
  b : Bd
  fat : Bd
  deriving DecidableEq
namespace TrE
def Rise (L : List En) : Prop := L.Pairwise fun a b => a.n < b.n
def lo (L : List En) (n : Int) : List En := L.takeWhile fun e => decide (e.n < n)
def hi (L : List En) (n : Int) : List En := L.dropWhile fun e => decide (e.n < n)
def isIn (L : List En) (n : Int) : Bool := L.any fun e => e.n == n
def ins (L : List En) (e : En) : List En := lo L e.n ++ e :: hi L e.n
def del (L : List En) (n : Int) : List En := lo L n ++ (hi L n).drop 1
def upd (L : List En) (e : En) : List En := lo L e.n ++ e :: (hi L e.n).drop 1
def get (L : List En) (n : Int) : Option En := L.find? fun e => e.n == n
theorem lo_hi (L : List En) (n : Int) : lo L n ++ hi L n = L := List.takeWhile_append_dropWhile
theorem lo_lt {L : List En} {n : Int} : ∀ a ∈ lo L n, a.n < n := fun a ha => by
  unfold lo at ha
  simpa using List.all_eq_true.1 (List.all_takeWhile (l := L) (p := fun e => decide (e.n < n))) a ha
theorem hi_ge {n : Int} : ∀ {L : List En}, Rise L → ∀ a ∈ hi L n, n ≤ a.n
  | [], _, a, h => by cases h
  | x :: r, hr, a, h => by
    unfold hi at h
    rw [List.dropWhile_cons] at h
    have hr' := List.pairwise_cons.1 hr
    split at h
    · exact hi_ge hr'.2 a h
    · rename_i hx
      have hx' : ¬ x.n < n := by simpa using hx
      rcases List.mem_cons.1 h with rfl | h
      · omega
      · have := hr'.1 a h; omega
theorem isIn_iff {L : List En} {n : Int} : isIn L n = true ↔ ∃ e ∈ L, e.n = n := by unfold isIn; simp [List.any_eq_true]
theorem not_in {L : List En} {n : Int} : isIn L n = false ↔ ∀ e ∈ L, e.n ≠ n := by
  rw [← Bool.not_eq_true, isIn_iff]
  constructor
  · intro h e he e'; exact h ⟨e, he, e'⟩
  · rintro h ⟨e, he, e'⟩; exact h e he e'
theorem hi_no {L : List En} {n : Int} (hr : Rise L) (h : isIn L n = false) : ∀ a ∈ hi L n, n < a.n := fun a ha => by
  have h1 := hi_ge hr a ha
  have h2 := not_in.1 h a (by rw [← lo_hi L n]; exact List.mem_append_right _ ha)
  omega
theorem hi_in {L : List En} {n : Int} (hr : Rise L) (h : isIn L n = true) : ∃ e r, hi L n = e :: r ∧ e.n = n ∧ e ∈ L ∧ ∀ a ∈ r, n < a.n := by
  obtain ⟨e, he, en⟩ := isIn_iff.1 h
  have h1 : e ∈ hi L n := by
    rw [← lo_hi L n] at he
    rcases List.mem_append.1 he with h | h
    · have := lo_lt e h; omega
    · exact h
  have hR : Rise (hi L n) := List.Pairwise.sublist (List.dropWhile_sublist _) hr
  cases hq : hi L n with
  | nil => rw [hq] at h1; cases h1
  | cons x r =>
    rw [hq] at h1 hR
    have hx := hi_ge hr x (by rw [hq]; exact List.mem_cons_self ..)
    have hR' := List.pairwise_cons.1 hR
    rcases List.mem_cons.1 h1 with rfl | h1
    · exact ⟨e, r, rfl, en, by rw [← lo_hi L n, hq]; exact List.mem_append_right _ (List.mem_cons_self ..), fun a ha => by have := hR'.1 a ha; omega⟩
    · have := hR'.1 e h1; omega
theorem ins_perm (L : List En) (e : En) : (ins L e).Perm (e :: L) := by
  unfold ins
  refine List.perm_middle.trans ?_
  rw [lo_hi]
theorem ins_rise {L : List En} {e : En} (hr : Rise L) (h : isIn L e.n = false) : Rise (ins L e) := by
  have hl : Rise (lo L e.n) := List.Pairwise.sublist (List.takeWhile_sublist _) hr
  have hh : Rise (hi L e.n) := List.Pairwise.sublist (List.dropWhile_sublist _) hr
  refine List.pairwise_append.2 ⟨hl, List.pairwise_cons.2 ⟨hi_no hr h, hh⟩, fun a ha b hb => ?_⟩
  have h1 := lo_lt a ha
  rcases List.mem_cons.1 hb with rfl | hb
  · exact h1
  · have := hi_no hr h b hb; omega
/-- What is dropped stood there. -/
theorem del_perm {L : List En} {n : Int} (hr : Rise L) (h : isIn L n = true) : ∃ e, e ∈ L ∧ e.n = n ∧ L.Perm (e :: del L n) := by
  obtain ⟨e, r, h1, h2, h3, h4⟩ := hi_in hr h
  refine ⟨e, h3, h2, ?_⟩
  unfold del
  rw [h1]
  conv => lhs; rw [← lo_hi L n, h1]
  exact List.perm_middle
theorem del_sub (L : List En) (n : Int) : (del L n).Sublist L := by
  conv => rhs; rw [← lo_hi L n]
  exact List.Sublist.append (List.Sublist.refl _) (List.drop_sublist _ _)
theorem del_rise {L : List En} (n : Int) (hr : Rise L) : Rise (del L n) := List.Pairwise.sublist (del_sub L n) hr
theorem del_out {L : List En} {n : Int} (hr : Rise L) (h : isIn L n = true) : isIn (del L n) n = false := by
  obtain ⟨e, r, h1, h2, h3, h4⟩ := hi_in hr h
  refine not_in.2 fun a ha => ?_
  unfold del at ha
  rw [h1] at ha
  rcases List.mem_append.1 ha with ha | ha
  · have := lo_lt a ha; omega
  · have := h4 a ha; omega
theorem lo_del {L : List En} {n : Int} (hr : Rise L) (h : isIn L n = true) : lo (del L n) n = lo L n ∧ hi (del L n) n = (hi L n).drop 1 := by
  obtain ⟨e, r, h1, h2, h3, h4⟩ := hi_in hr h
  have q : ∀ a ∈ lo L n, decide (a.n < n) = true := fun a ha => by simpa using lo_lt a ha
  unfold del
  rw [h1]
  show lo (lo L n ++ r) n = _ ∧ hi (lo L n ++ r) n = r
  have e1 : r.takeWhile (fun e => decide (e.n < n)) = [] ∧ r.dropWhile (fun e => decide (e.n < n)) = r := by
    cases r with
    | nil => exact ⟨rfl, rfl⟩
    | cons x r =>
      have := h4 x (List.mem_cons_self ..)
      have hx : ¬ x.n < n := by omega
      simp [List.takeWhile_cons, List.dropWhile_cons, hx]
  constructor
  · show (lo L n ++ r).takeWhile _ = _
    rw [List.takeWhile_append_of_pos q, e1.1, List.append_nil]
  · show (lo L n ++ r).dropWhile _ = _
    rw [List.dropWhile_append_of_pos q, e1.2]
/-- Set is dropped and put. -/
theorem upd_ins {L : List En} {e : En} (hr : Rise L) (h : isIn L e.n = true) : ins (del L e.n) e = upd L e := by
  unfold ins upd
  rw [(lo_del hr h).1, (lo_del hr h).2]
theorem upd_perm {L : List En} {e : En} (hr : Rise L) (h : isIn L e.n = true) : (upd L e).Perm (e :: del L e.n) := by rw [← upd_ins hr h]; exact ins_perm _ _
theorem upd_rise {L : List En} {e : En} (hr : Rise L) (h : isIn L e.n = true) : Rise (upd L e) := by rw [← upd_ins hr h]; exact ins_rise (del_rise _ hr) (del_out hr h)
theorem rise_n {L : List En} (hr : Rise L) {a b : En} (ha : a ∈ L) (hb : b ∈ L) (h : a.n = b.n) : a = b := by
  induction L with
  | nil => cases ha
  | cons x r ih =>
    have hr' := List.pairwise_cons.1 hr
    rcases List.mem_cons.1 ha with ea | ha
    · rcases List.mem_cons.1 hb with eb | hb
      · rw [ea, eb]
      · have := hr'.1 b hb; rw [ea] at h; omega
    · rcases List.mem_cons.1 hb with eb | hb
      · have := hr'.1 a ha; rw [eb] at h; omega
      · exact ih hr'.2 ha hb
theorem get_in {L : List En} {n : Int} {e : En} (h : get L n = some e) : e ∈ L ∧ e.n = n := ⟨List.mem_of_find?_eq_some h, by simpa using List.find?_some h⟩
theorem get_of {L : List En} {n : Int} {e : En} (hr : Rise L) (he : e ∈ L) (hn : e.n = n) : get L n = some e := by
  cases h : get L n with
  | none => have := List.find?_eq_none.1 h e he; simp [hn] at this
  | some x => have := get_in h; rw [rise_n hr this.1 he (by omega)]
theorem get_none {L : List En} {n : Int} : get L n = none ↔ isIn L n = false := by
  rw [not_in]; unfold get; rw [List.find?_eq_none]; simp
theorem get_isIn {L : List En} {n : Int} {e : En} (h : get L n = some e) : isIn L n = true := isIn_iff.2 ⟨e, get_in h⟩
/-- What is told. -/
def tell (q : Bd → Bool) (L : List En) : List Int := (L.filter fun e => q e.b).map (·.n)
def pairsL : List En → List (Int × Int)
  | [] => []
  | e :: r => ((r.filter fun x => meet e.b x.b).map fun x => (e.n, x.n)) ++ pairsL r
end TrE
end Go.NP
namespace Go.Proofs.YtbcjnckejkjfeaaGreat
set_option linter.unusedVariables false
set_option linter.unusedSimpArgs false
open Go.RowKit Go.NP
namespace DSl
/-- An entry's cells. -/
def env (e : En) : List Value := [.int .i64 e.n, .int .i64 e.b.lo.x, .int .i64 e.b.lo.y, .int .i64 e.b.lo.z, .int .i64 e.b.hi.x, .int .i64 e.b.hi.y, .int .i64 e.b.hi.z, .int .i64 e.fat.lo.x, .int .i64 e.fat.lo.y, .int .i64 e.fat.lo.z, .int .i64 e.fat.hi.x, .int .i64 e.fat.hi.y, .int .i64 e.fat.hi.z]
/-- A row of entries. -/
def EAt (w : World) (b off : Nat) (l : List En) : Prop := ∀ (k : Nat) s, l[k]? = some s → At' w b (off + k * 13) (env s)
theorem EAt.step {w w' : World} {b off : Nat} {l : List En} (h : EAt w b off l) (hb : b < w.heap.size) (hS : Below w.heap.size w w') : EAt w' b off l := fun k s hk => (h k s hk).step hb hS
/-- A slice of entries. -/
def SlE (w : World) (A : Option Addr) (n : Nat) (l : List En) : Prop := l.length = n ∧ (0 < n → ∃ b off, A = some ⟨b, off, none⟩ ∧ b < w.heap.size ∧ EAt w b off l)
theorem SlE.step {w w' : World} {A : Option Addr} {n : Nat} {l : List En} (h : SlE w A n l) (hS : Below w.heap.size w w') : SlE w' A n l :=
  ⟨h.1, fun hn => by obtain ⟨b, off, h1, h2, h3⟩ := h.2 hn; exact ⟨b, off, h1, by have := hS.size; omega, h3.step h2 hS⟩⟩
/-- The cells of entries. -/
def envs (l : List En) : List Value := l.flatMap env
theorem envs_len (l : List En) : (envs l).length = l.length * 13 := by
  induction l with
  | nil => rfl
  | cons x r ih => rw [envs, List.flatMap_cons, List.length_append, List.length_cons]; rw [envs] at ih; rw [ih]; simp [env]; omega
theorem envs_append (l m : List En) : envs (l ++ m) = envs l ++ envs m := by unfold envs; rw [List.flatMap_append]
theorem envs_get : ∀ (l : List En) (k : Nat) (s : En) (j : Nat) (v : Value), l[k]? = some s → (env s)[j]? = some v → (envs l)[k * 13 + j]? = some v
  | [], _, _, _, _, h, _ => by cases h
  | x :: r, 0, s, j, v, h, hv => by
    obtain rfl : x = s := by simpa using h
    rw [envs, List.flatMap_cons, Nat.zero_mul, Nat.zero_add]
    have hj : j < (env x).length := get_lt hv
    rw [List.getElem?_append_left hj]; exact hv
  | x :: r, k + 1, s, j, v, h, hv => by
    have h' : r[k]? = some s := by simpa using h
    have ih := envs_get r k s j v h' hv
    rw [envs, List.flatMap_cons]
    rw [show (k + 1) * 13 + j = (env x).length + (k * 13 + j) by simp [env]; omega, List.getElem?_append_right (by omega), Nat.add_sub_cancel_left]
    exact ih
theorem envs_at {l : List En} {j : Nat} {v : Value} (h : (envs l)[j]? = some v) : ∃ s, l[j / 13]? = some s ∧ (env s)[j % 13]? = some v := by
  have hj : j < l.length * 13 := by rw [← envs_len]; exact get_lt h
  have hk : j / 13 < l.length := by omega
  refine ⟨l[j / 13], List.getElem?_eq_getElem hk, ?_⟩
  have h5 : j % 13 < (env l[j / 13]).length := by simp [env]; omega
  have := envs_get l (j / 13) l[j / 13] (j % 13) _ (List.getElem?_eq_getElem hk) (List.getElem?_eq_getElem h5)
  rw [show j / 13 * 13 + j % 13 = j by omega, h] at this
  rw [List.getElem?_eq_getElem h5, ← Option.some.inj this]
theorem env_one {s : En} : ∀ v ∈ env s, v.oneCell' = true := by simp [env, Value.oneCell']
theorem envs_one {l : List En} : ∀ v ∈ envs l, v.oneCell' = true := fun v hv => by
  obtain ⟨s, _, h⟩ := List.mem_flatMap.1 hv
  exact env_one v h
/-- A slice of one's own that holds these entries. -/
def OwnE (w : World) (base : Nat) (v : Value) (l : List En) : Prop := w.ownsRow base 79 13 v l.length (envs l)
theorem OwnE.sl {w : World} {base : Nat} {v : Value} {l : List En} (h : OwnE w base v l) : ∃ A cap, v = .slice A l.length cap ∧ SlE w A l.length l := by
  rcases h.2 with ⟨rfl, h0⟩ | ⟨g, cap, cur, rfl, hb, hg, hc, hm, hsz, hx⟩
  · exact ⟨none, 0, by rw [h0], rfl, fun h => absurd h (by omega)⟩
  · refine ⟨some ⟨g, 0, none⟩, cap, rfl, rfl, fun _ => ⟨g, 0, rfl, (Array.getElem?_eq_some_iff.1 hg).1, fun k s hk j v hv => ?_⟩⟩
    have h1 := envs_get l k s j v hk hv
    rw [← hx] at h1
    have h2 : k * 13 + j < l.length * 13 := by have := get_lt h1; rw [hx, envs_len] at this; exact this
    rw [List.getElem?_take_of_lt h2] at h1
    simp only [World.cell?, hg, Nat.zero_add]
    simpa using h1
theorem OwnE.nil (w : World) (base : Nat) : OwnE w base (.slice none 0 0) [] := ⟨rfl, .inl ⟨rfl, rfl⟩⟩
theorem OwnE.step {w w' : World} {base : Nat} {v : Value} {l : List En} (h : OwnE w base v l) (hS : Below w.heap.size w w') : OwnE w' base v l := by
  refine ⟨h.1, ?_⟩
  rcases h.2 with h1 | ⟨g, cap, cur, h1, hb, hg, h2⟩
  · exact .inl h1
  · exact .inr ⟨g, cap, cur, h1, hb, (hS.block g (Array.getElem?_eq_some_iff.1 hg).1).trans hg, h2⟩
theorem OwnE.mono {w : World} {base base' : Nat} {v : Value} {l : List En} (h : OwnE w base v l) (hb : base' ≤ base) : OwnE w base' v l := by
  refine ⟨h.1, ?_⟩
  rcases h.2 with h1 | ⟨g, cap, cur, h1, hb', h2⟩
  · exact .inl h1
  · exact .inr ⟨g, cap, cur, h1, by omega, h2⟩
theorem ownBlock_ge {w : World} {base : Nat} {v : Value} {l : List En} (h : OwnE w base v l) : ∀ j, v.ownBlock = some j → base ≤ j := fun j hj => by
  rcases h.2 with ⟨rfl, _⟩ | ⟨g, cap, cur, rfl, hb, _⟩
  · simp [Value.ownBlock] at hj
  · obtain rfl : g = j := by simpa [Value.ownBlock] using hj
    exact hb
def ez : Value := .agg #[.int .i64 0, .int .i64 0, .int .i64 0, .int .i64 0, .int .i64 0, .int .i64 0, .int .i64 0, .int .i64 0, .int .i64 0, .int .i64 0, .int .i64 0, .int .i64 0, .int .i64 0]
theorem infoEn : (Tryz.prog.info? 79).map (fun i => (i.zero, i.size, i.bytes)) = some (some ez, 13, 104) := by kernel_rfl
theorem SlE.news {w : World} {ad : Addr} {n : Nat} {l : List En} (h : SlE w (some ad) n l) : ∀ j u, (envs l)[j]? = some u → w.cell? (ad.add j) = some u := fun j u hj => by
  obtain ⟨s, h1, h2⟩ := envs_at hj
  have hl := get_lt h1
  obtain ⟨b, off, e, hb, hs⟩ := h.2 (by have := h.1; omega)
  cases e
  have h3 := hs _ s h1 _ u h2
  have hadd : (⟨b, off, none⟩ : Addr).add j = ⟨b, off + j, none⟩ := by unfold Addr.add; split <;> simp_all
  rw [hadd, show off + j = off + j / 13 * 13 + j % 13 by omega]; exact h3
theorem own_new (w : World) (l : List En) (h : l.length ≤ 1000) : OwnE (w.alloc (.cells (envs l).toArray 79)) w.heap.size (.slice (some ⟨w.heap.size, 0, none⟩) l.length l.length) l := by
  have hl := envs_len l
  refine ⟨hl, .inr ⟨w.heap.size, l.length, (envs l).toArray, rfl, Nat.le_refl _, ?_, Nat.le_refl _, ?_, by simpa using hl, ?_⟩⟩
  · exact Box.new rfl
  · simp [maxLen]; omega
  · rw [List.take_of_length_le (by simpa using Nat.le_of_eq hl)]
theorem own_at {w : World} {base : Nat} {v : Value} {l : List En} (n : Nat) (h : OwnE w base v l) (hn : l.length = n) (h0 : 0 < n) : ∃ b off c, v = .slice (some ⟨b, off, none⟩) n c ∧ b < w.heap.size ∧ EAt w b off l := by
  obtain ⟨A, c, h1, h2⟩ := h.sl
  obtain ⟨b, off, rfl, hb, hs⟩ := h2.2 (by omega)
  exact ⟨b, off, c, by rw [h1, hn], hb, hs⟩
theorem wpE_app {ops : Array Oper} {r : List Oper} {o : Oper} {a : Act} {Q : Exit → Act → World → Prop} {w : World} {base g : Nat} {v : Value} {l : List En} {t : En} (hgd : o.guard = none) (s x : Operand)
    (ho : o.op = .call { callee := .builtin .append, args := #[s, x], argTypes := #[28, 28] }) (hs : a.eval s = v) (hown : OwnE w base v l) (hx : a.eval x = .slice (some ⟨g, 0, none⟩) 1 1) (hat : At' w g 0 (env t)) (hl : l.length ≤ 100000) (hb : base ≤ w.heap.size)
    (h : ∀ v' w', OwnE w' base v' (l ++ [t]) → (∀ w0, Below base w0 w → Below base w0 w') → wpList Tryz.prog ops Q r (a.put o.dst v') w') : wpList Tryz.prog ops Q (o :: r) a w := by
  obtain ⟨i0, hi0, hz0, hz1, hz2⟩ := info_parts infoEn
  refine wpList_append_own _ hgd s x 28 ho base 79 i0 ez 13 104 Tryz.underlying28 hi0 hz0 hz1 hz2 rfl (by decide) v l.length (envs l) hs hown ⟨g, 0, none⟩ 1 1 (env t) hx rfl (fun j u hj => ?_) env_one (by unfold maxLen; omega) (by omega) hb ?_
  · have := hat j u hj
    have hadd : (⟨g, 0, none⟩ : Addr).add j = ⟨g, 0 + j, none⟩ := by unfold Addr.add; split <;> simp_all
    rw [hadd]; exact this
  · intro v' w' h1 h2 _
    refine h v' w' ?_ fun w0 hB => hB.grown h2 hb fun k hk => ownBlock_ge hown k hk
    unfold OwnE
    rw [envs_append, List.length_append]
    simpa [envs] using h1
/-- A slice of entries, nil only where it has no room. -/
def SlEC (w : World) (A : Option Addr) (n cap : Nat) (l : List En) : Prop := SlE w A n l ∧ (A = none → cap = 0)
theorem wpE_all {ops : Array Oper} {r : List Oper} {o : Oper} {a : Act} {Q : Exit → Act → World → Prop} {w : World} {base : Nat} {v : Value} {m l : List En} {A : Option Addr} {n cap : Nat} (hgd : o.guard = none) (s x : Operand)
    (ho : o.op = .call { callee := .builtin .append, args := #[s, x], argTypes := #[28, 28] }) (hs : a.eval s = v) (hown : OwnE w base v m) (hx : a.eval x = .slice A n cap) (hl : SlEC w A n cap l) (hm : m.length ≤ 100000) (hn : n ≤ 100000) (hb : base ≤ w.heap.size)
    (h : ∀ v' w', OwnE w' base v' (m ++ l) → (∀ w0, Below base w0 w → Below base w0 w') → wpList Tryz.prog ops Q r (a.put o.dst v') w') : wpList Tryz.prog ops Q (o :: r) a w := by
  obtain ⟨i0, hi0, hz0, hz1, hz2⟩ := info_parts infoEn
  cases A with
  | some ad =>
    have hll := hl.1.1
    refine wpList_append_own _ hgd s x 28 ho base 79 i0 ez 13 104 Tryz.underlying28 hi0 hz0 hz1 hz2 rfl (by decide) v m.length (envs m) hs hown ad n cap (envs l) hx (by rw [envs_len, hll]) (SlE.news hl.1) envs_one (by unfold maxLen; omega) (by omega) hb ?_
    intro v' w' h1 h2 _
    refine h v' w' ?_ fun w0 hB => hB.grown h2 hb fun k hk => ownBlock_ge hown k hk
    unfold OwnE
    rw [envs_append, List.length_append, hll]
    exact h1
  | none =>
    have hc := hl.2 rfl
    have h0 : l = [] := by
      rcases Nat.eq_zero_or_pos n with h0 | h0
      · exact List.eq_nil_of_length_eq_zero (by rw [hl.1.1]; exact h0)
      · obtain ⟨_, _, e, _⟩ := hl.1.2 h0; cases e
    subst h0
    have hn0 : n = 0 := hl.1.1.symm
    subst hc; subst hn0
    refine wpList_append_own_none hgd s x 28 ho base 79 i0 13 Tryz.underlying28 hi0 v m.length (envs m) hs hown hx ?_
    exact h v w (by rw [List.append_nil]; exact hown) (fun w0 hB => hB)
end DSl
end Go.Proofs.YtbcjnckejkjfeaaGreat
namespace Go.Proofs.YtbcjnckejkjfeaaGreat
set_option linter.unusedVariables false
set_option linter.unusedSimpArgs false
open Go.RowKit Go.NP
namespace DPl
open TrE DSl
theorem lo_at {L : List En} {q : Int} {j : Nat} (h : j < (lo L q).length) : ∃ e, L[j]? = some e ∧ e.n < q := by
  refine ⟨(lo L q)[j], ?_, lo_lt _ (List.getElem_mem h)⟩
  have : (lo L q ++ hi L q)[j]? = some (lo L q)[j] := by rw [List.getElem?_append_left h, List.getElem?_eq_getElem h]
  rwa [lo_hi] at this
theorem hi_at {L : List En} {q : Int} : L[(lo L q).length]? = (hi L q)[0]? := by
  have : (lo L q ++ hi L q)[(lo L q).length]? = (hi L q)[0]? := by rw [List.getElem?_append_right (Nat.le_refl _), Nat.sub_self]
  rwa [lo_hi] at this
theorem lo_end {L : List En} {q : Int} (hr : Rise L) {e : En} (h : L[(lo L q).length]? = some e) : ¬ e.n < q := by
  rw [hi_at] at h
  have := hi_ge hr e (List.mem_of_getElem? h)
  omega
theorem lo_len (L : List En) (q : Int) : (lo L q).length ≤ L.length := by
  have := congrArg List.length (lo_hi L q)
  rw [List.length_append] at this; omega
theorem in_end {L : List En} {q : Int} (hr : Rise L) {e : En} (h : L[(lo L q).length]? = some e) : isIn L q = decide (e.n = q) := by
  rw [hi_at] at h
  by_cases hi0 : isIn L q = true
  · obtain ⟨x, r, h1, h2, _⟩ := hi_in hr hi0
    rw [h1] at h
    obtain rfl : x = e := by simpa using h
    rw [hi0]; exact (decide_eq_true h2).symm
  · have h0 : isIn L q = false := by simpa using hi0
    have := hi_no hr h0 e (List.mem_of_getElem? h)
    rw [h0]; exact (decide_eq_false (by omega)).symm
theorem in_none {L : List En} {q : Int} (hr : Rise L) (h : L.length = (lo L q).length) : isIn L q = false := by
  cases hi0 : isIn L q
  · rfl
  · obtain ⟨x, r, h1, _⟩ := hi_in hr hi0
    have := congrArg List.length (lo_hi L q)
    rw [List.length_append, h1, List.length_cons] at this
    omega
theorem EAt.n {w : World} {b off k : Nat} {l : List En} {e : En} (h : EAt w b off l) (hk : l[k]? = some e) : w.cell? ⟨b, off + k * 13, none⟩ = some (.int .i64 e.n) := by
  have := h k e hk 0 _ rfl
  rwa [Nat.add_zero] at this
set_option maxRecDepth 100000 in
set_option maxHeartbeats 4000000 in
theorem placeC {A : Option Addr} {n : Nat} (cap : Nat) (mg q : Int) {L : List En} (w : World) (h : SlE w A n L) (hr : Rise L) (hn : n ≤ 100000) : RetB Tryz.prog 42 #[.agg #[.int .i64 mg, .slice A n cap], .int .i64 q] w (.tuple #[.int .i64 ((lo L q).length : Nat), .bool (isIn L q)]) := by
  have hln := h.1
  have H := Lib.hid h
  have HL := Lib.hid (fun (j : Nat) (hj : j < (lo L q).length) => lo_at hj)
  have HE := Lib.hid (fun (e : En) (he : L[(lo L q).length]? = some e) => (⟨lo_end hr he, (in_end hr he).trans rfl⟩ : ¬ e.n < q ∧ isIn L q = (e.n == q)))
  have HN := Lib.hid (fun (he : L.length = (lo L q).length) => in_none hr he)
  have hz := lo_len L q
  clear h hr
  revert HL HE HN hz
  generalize (lo L q).length = z
  generalize isIn L q = c
  intro HL HE HN hz
  have hB : Box (w.alloc (.cells #[.int .i64 mg, .slice A n cap] 30)) w.heap.size [.int .i64 mg, .slice A n cap] 30 := Box.new rfl
  have hb : Below w.heap.size w (w.alloc (.cells #[.int .i64 mg, .slice A n cap] 30)) := (Below.refl _ _).alloc (Nat.le_refl _) _
  unfold RetB
  go_enter Tryz.func42, Tryz.ntmps42
  go_wp2_with fail
  have HB := Lib.hid (fun (u : World) (hu : Below (w.alloc (.cells #[.int .i64 mg, .slice A n cap] 30)).heap.size (w.alloc (.cells #[.int .i64 mg, .slice A n cap] 30)) u) => (show u.cell? ⟨w.heap.size, 1, none⟩ = some (.slice A n cap) from (hB.step hu).cell 1))
  have hg1 : w.heap.size < (w.alloc (.cells #[.int .i64 mg, .slice A n cap] 30)).heap.size := hB.lt
  revert hb HB hg1
  generalize (w.alloc (.cells #[.int .i64 mg, .slice A n cap] 30)) = w1
  intro hb HB hg1
  clear hB
  go_loopw [6] (fun i wr => ∃ (k : Nat), i = .int .i64 (k : Int) ∧ k ≤ z ∧ Below w1.heap.size w1 wr) (fun i _ => z - (RowKit.intOf i).toNat)
  case atStart => exact ⟨0, rfl, Nat.zero_le _, Below.refl _ _⟩
  case round =>
    obtain ⟨k, rfl, hk, hS⟩ := hrel
    have cb := HB.out wr hS
    have hW := hb.trans (hS.mono hb.size)
    have hgw : w.heap.size < wr.heap.size := by have := hS.size; omega
    by_cases hlt : k < n
    · have t1 : decide ((k : Int) < (n : Int)) = true := by simpa using hlt
      obtain ⟨x, hx⟩ : ∃ x, L[k]? = some x := ⟨_, List.getElem?_eq_getElem (by omega)⟩
      obtain ⟨b, off, rfl, hbl, hat⟩ := H.out.2 (by omega)
      have cx : wr.cell? ⟨b, off + k * 13, none⟩ = some (.int .i64 x.n) := EAt.n (hat.step hbl hW) hx
      have k0 : 0 ≤ (k : Int) ∧ (k : Int) < (n : Int) := by omega
      have hbw : b < wr.heap.size := by have := hW.size; omega
      clear hat
      by_cases hkz : k < z
      · obtain ⟨x', hx', hlt'⟩ := HL.out k hkz
        obtain rfl : x = x' := by rw [hx] at hx'; cases hx'; rfl
        have t2 : decide (x.n < q) = true := decide_eq_true hlt'
        have v1 : IntKind.i64.wrap ((k : Int) + 1) = ((k + 1 : Nat) : Int) := by rw [IntKind.wrap_i64]; omega
        clear hx hx' hlt'
        go_wp2_with fail
        exact ⟨⟨k + 1, rfl, by omega, hS⟩, by simp [RowKit.intOf]; omega⟩
      · obtain rfl : k = z := by omega
        obtain ⟨h1, h2⟩ := HE.out x hx
        have t2 : decide (x.n < q) = false := decide_eq_false (by omega)
        subst h2
        clear hx h1
        go_wp2_with fail
        refine wp_region_ph [(18, .free [])] (by kernel_rfl) (by kernel_rfl) ?_
        refine Ph.belowd ?_
        simp only [List.drop_succ_cons, List.drop_zero, List.take_succ_cons, List.take_zero, Nat.reduceSub, Nat.sub_zero]
        iterate 18 (refine SeqO.val (v := ?_) (by rfl) (by rfl) (fun w1 hS => ?_) ?_; rotate_left; (· obtain ⟨hc, hcf⟩ := bcell hS; go_simp; try with_reducible rfl); simp only [Act.put, List.setIfInBounds_toArray, List.set_cons_zero, List.set_cons_succ])
        refine SeqO.nil0 fun w8 hS8 => ?_
        refine Ph.last ?_
        simp only [List.drop_succ_cons, List.drop_zero, List.take_succ_cons, List.take_zero, Nat.reduceSub, Nat.sub_zero]
        refine wpList_nil ?_
        have hW8 := hW.trans (hS8.mono hW.size)
        go_wp2_with fail
        exact bodyPost_ret (v := .tuple #[.int .i64 (k : Int), .bool (x.n == q)]) (by simp [results, Tryz.results42, go_sem]) rfl ⟨rfl, hW8⟩
    · have t1 : decide ((k : Int) < (n : Int)) = false := decide_eq_false (by omega)
      obtain rfl : k = z := by omega
      have hc := HN.out (by omega)
      subst hc
      go_wp2_with fail
      refine wp_region_ph [(18, .free [])] (by kernel_rfl) (by kernel_rfl) ?_
      refine Ph.belowd ?_
      simp only [List.drop_succ_cons, List.drop_zero, List.take_succ_cons, List.take_zero, Nat.reduceSub, Nat.sub_zero]
      iterate 7 (refine SeqO.val (v := ?_) (by rfl) (by rfl) (fun w1 hS => ?_) ?_; rotate_left; (· obtain ⟨hc, hcf⟩ := bcell hS; go_simp; try with_reducible rfl); simp only [Act.put, List.setIfInBounds_toArray, List.set_cons_zero, List.set_cons_succ])
      iterate 8 (refine SeqO.skip (by rfl) (by rfl) ?_; simp only [Act.put, List.setIfInBounds_toArray, List.set_cons_zero, List.set_cons_succ])
      iterate 3 (refine SeqO.val (v := ?_) (by rfl) (by rfl) (fun w1 hS => ?_) ?_; rotate_left; (· obtain ⟨hc, hcf⟩ := bcell hS; go_simp; try with_reducible rfl); simp only [Act.put, List.setIfInBounds_toArray, List.set_cons_zero, List.set_cons_succ])
      refine SeqO.nil0 fun w8 hS8 => ?_
      refine Ph.last ?_
      simp only [List.drop_succ_cons, List.drop_zero, List.take_succ_cons, List.take_zero, Nat.reduceSub, Nat.sub_zero]
      refine wpList_nil ?_
      have hW8 := hW.trans (hS8.mono hW.size)
      go_wp2_with fail
      exact bodyPost_ret (v := .tuple #[.int .i64 (k : Int), .bool false]) (by simp [results, Tryz.results42, go_sem]) rfl ⟨rfl, hW8⟩
end DPl
end Go.Proofs.YtbcjnckejkjfeaaGreat
namespace Go.Proofs.YtbcjnckejkjfeaaGreat
set_option linter.unusedVariables false
set_option linter.unusedSimpArgs false
open Go.RowKit Go.NP
namespace TrW
open TrP
def bdv (b : Bd) : List Value := [.int .i64 b.lo.x, .int .i64 b.lo.y, .int .i64 b.lo.z, .int .i64 b.hi.x, .int .i64 b.hi.y, .int .i64 b.hi.z]
def ndv (x : Nd) : List Value := bdv x.fat ++ bdv x.b ++ [.int .i64 x.n, .int .i64 x.u, .int .i64 x.l, .int .i64 x.r, .int .i64 x.h]
theorem ndv_len (x : Nd) : (ndv x).length = 17 := rfl
/-- A tree: where it lies, and what it holds. -/
structure Tn where
  p : Nat
  g : Nat
  N : Nat
  cap : Nat
  m : M
  top : Int
  mg : Int
  fr : Value
  mp : Value
def tv (T : Tn) : List Value := [.bool true, .int .i64 T.mg, .slice (some ⟨T.g, 0, none⟩) T.N T.cap, T.fr, .int .i64 T.top, T.mp]
def CellsN (L : List Value) (m : M) (N : Nat) : Prop := ∀ (i : Nat), i < N → ∀ (j : Nat) v, (ndv (m i))[j]? = some v → L[i * 17 + j]? = some v
structure TN (w : World) (T : Tn) : Prop where
  box : Box w T.p (tv T) 60
  row : ∃ L, Box w T.g L 73 ∧ L.length = T.cap * 17 ∧ CellsN L T.m T.N
  cap : T.N ≤ T.cap
  ne : T.p ≠ T.g
  small : T.N ≤ 100000
theorem CellsN.set {L : List Value} {m : M} {N : Nat} (h : CellsN L m N) {k j : Nat} {v : Value} {x : Nd} (hk : k < N) (hj : j < 17) (hL : N * 17 ≤ L.length) (hx : ndv x = (ndv (m k)).set j v) : CellsN (L.set (k * 17 + j) v) (st m k x) N := fun i hi j' v' hv => by
  have hj' : j' < 17 := by
    rcases Nat.lt_or_ge j' 17 with h | h
    · exact h
    · rw [List.getElem?_eq_none (by rw [ndv_len]; exact h)] at hv; cases hv
  by_cases e : i = k
  · subst e
    rw [st_at, hx] at hv
    by_cases e2 : j' = j
    · subst e2
      rw [List.getElem?_set_self (by rw [ndv_len]; exact hj)] at hv
      rw [List.getElem?_set_self (by omega)]; exact hv
    · rw [List.getElem?_set_ne (fun e => e2 e.symm)] at hv
      rw [List.getElem?_set_ne (by omega)]; exact h i hi j' v' hv
  · rw [st_ne (by omega)] at hv
    rw [List.getElem?_set_ne (by omega)]; exact h i hi j' v' hv
theorem TN.cell {w : World} {T : Tn} (h : TN w T) {i : Nat} (hi : i < T.N) {j : Nat} {v : Value} (hv : (ndv (T.m i))[j]? = some v) : w.cell? ⟨T.g, i * 17 + j, none⟩ = some v := by
  obtain ⟨L, hb, _, hc⟩ := h.row
  rw [hb.cell]; exact hc i hi j v hv
theorem TN.free {w : World} {T : Tn} (h : TN w T) (j : Nat) : w.frozen? ⟨T.g, j, none⟩ = false := by
  obtain ⟨L, hb, _⟩ := h.row
  exact hb.free j
/-- A node's field is written. -/
theorem TN.put {w : World} {T : Tn} (h : TN w T) {k j : Nat} {v : Value} {x : Nd} (hk : k < T.N) (hj : j < 17) (hx : ndv x = (ndv (T.m k)).set j v) : TN (w.setCell ⟨T.g, k * 17 + j, none⟩ v) { T with m := st T.m k x } := by
  obtain ⟨L, hb, hl, hc⟩ := h.row
  have hcap := h.cap
  exact ⟨h.box.other (fun e => h.ne e.symm) v, ⟨_, hb.set _ v, by rw [List.length_set]; exact hl, hc.set hk hj (by rw [hl]; exact Nat.mul_le_mul_right 17 hcap) hx⟩, h.cap, h.ne, h.small⟩
/-- The top is written. -/
theorem TN.top {w : World} {T : Tn} (h : TN w T) (t : Int) : TN (w.setCell ⟨T.p, 4, none⟩ (.int .i64 t)) { T with top := t } := by
  obtain ⟨L, hb, hl, hc⟩ := h.row
  exact ⟨(h.box.set 4 (.int .i64 t)).cast rfl, ⟨L, hb.other h.ne _, hl, hc⟩, h.cap, h.ne, h.small⟩
/-- All but the tree's two blocks is as it was. -/
structure Mod (w w' : World) (p g : Nat) : Prop where
  os : w'.os = w.os
  tape : w'.tape = w.tape
  output : w'.output = w.output
  size : w.heap.size ≤ w'.heap.size
  block : ∀ k, k < w.heap.size → k ≠ p → k ≠ g → w'.heap[k]? = w.heap[k]?
theorem Mod.refl (w : World) (p g : Nat) : Mod w w p g := ⟨rfl, rfl, rfl, Nat.le_refl _, fun _ _ _ _ => rfl⟩
theorem Mod.trans {w1 w2 w3 : World} {p g : Nat} (h : Mod w1 w2 p g) (k : Mod w2 w3 p g) : Mod w1 w3 p g :=
  ⟨k.os.trans h.os, k.tape.trans h.tape, k.output.trans h.output, Nat.le_trans h.size k.size, fun i hi h1 h2 => (k.block i (Nat.lt_of_lt_of_le hi h.size) h1 h2).trans (h.block i hi h1 h2)⟩
theorem Mod.of_below {w1 w2 : World} {p g : Nat} (h : Below w1.heap.size w1 w2) : Mod w1 w2 p g := ⟨h.os, h.tape, h.output, h.size, fun i hi _ _ => h.block i hi⟩
theorem Mod.cell {w1 w2 : World} {p g : Nat} (h : Mod w1 w2 p g) {a : Addr} (ha : a.block = p ∨ a.block = g) (v : Value) : Mod w1 (w2.setCell a v) p g := by
  refine h.trans ⟨rfl, rfl, rfl, by simp [World.setCell], fun i hi h1 h2 => ?_⟩
  exact Below.heap_setCell _ _ _ _ (fun e => by rcases ha with h | h <;> omega)
theorem Mod.alloc {w1 w2 : World} {p g : Nat} (h : Mod w1 w2 p g) (o : Obj) : Mod w1 (w2.alloc o) p g := h.trans (Mod.of_below ((Below.refl _ _).alloc (Nat.le_refl _) _))
theorem TN.step {w w' : World} {T : Tn} (h : TN w T) (hS : Below w.heap.size w w') : TN w' T := by
  obtain ⟨L, hb, hl, hc⟩ := h.row
  exact ⟨h.box.step hS, ⟨L, hb.step hS, hl, hc⟩, h.cap, h.ne, h.small⟩
/-- The cells of a tree's own block that are read. -/
theorem TN.nodes {w : World} {T : Tn} (h : TN w T) : w.cell? ⟨T.p, 2, none⟩ = some (.slice (some ⟨T.g, 0, none⟩) T.N T.cap) := by rw [h.box.cell]; rfl
theorem TN.fl {w : World} {T : Tn} (h : TN w T) {i : Nat} (hi : i < T.N) : w.cell? ⟨T.g, i * 17 + 14, none⟩ = some (.int .i64 (T.m i).l) := h.cell hi rfl
end TrW
end Go.Proofs.YtbcjnckejkjfeaaGreat
namespace Go.Proofs.YtbcjnckejkjfeaaGreat
set_option linter.unusedVariables false
set_option linter.unusedSimpArgs false
open Go.RowKit Go.NP
namespace TrC
open TrP TrW
section
variable {ops : Array Oper} {r : List Oper} {o : Oper} {a : Act} {Q : Exit → Act → World → Prop} {w : World} {ty : TypeId} {x y : Operand} {b off : Nat} {v : Value}
theorem run_sc (hv : v.cells = #[v]) (h1 : v.oneCell' = true) (hsz : (Tryz.prog.info? ty).map (·.size) = some 1) (hc : (w.cell? ⟨b, off, none⟩).isSome = true) (hf : w.frozen? ⟨b, off, none⟩ = false) :
    (storeVar ty ⟨b, off, none⟩ v).run Tryz.prog w = .ok () (w.setCell ⟨b, off, none⟩ v) := by
  have := run_storeCells_cells (P := Tryz.prog) b off [v] 0 w (fun j hj => by (obtain rfl : j = 0 := (by simpa using hj); simpa using hc)) (fun j hj => by (obtain rfl : j = 0 := (by simpa using hj); simpa using hf)) (fun u hu => by obtain rfl := List.mem_singleton.1 hu; exact h1)
  cases hq : Tryz.prog.info? ty with
  | none => simp [hq] at hsz
  | some i =>
    have hs : i.size = 1 := by simpa [hq] using hsz
    simp only [Nat.add_zero] at this
    simp [storeVar, sizeOf, typeInfo, hq, hv, hs, this]
    rfl
theorem wpL_sc (hgd : o.guard = none) (ho : o.op = .store ty x y) (hx : a.eval x = .pointer (some ⟨b, off, none⟩)) (hy : a.eval y = v) (hv : v.cells = #[v]) (h1 : v.oneCell' = true) (hsz : (Tryz.prog.info? ty).map (·.size) = some 1) (hc : (w.cell? ⟨b, off, none⟩).isSome = true) (hf : w.frozen? ⟨b, off, none⟩ = false)
    (h : wpList Tryz.prog ops Q r (a.put o.dst undef) (w.setCell ⟨b, off, none⟩ v)) : wpList Tryz.prog ops Q (o :: r) a w :=
  wpList_plain hgd fun _ hK => by
    unfold Oper.wp execOp
    simp only [ho, hx, hy, Instr.storeAt, Instr.sureAddr, Sem.run_bind, Sem.run_pure, Result.andThen_ok, run_sc hv h1 hsz hc hf]
    exact hK _ _ h
theorem szI : (Tryz.prog.info? 3).map (·.size) = some 1 := by kernel_rfl
/-- A number stored into a node's field. -/
theorem wpL_nf {T : Tn} {k j : Nat} {n : Int} {z : Nd} (hgd : o.guard = none) (ho : o.op = .store 3 x y) (hx : a.eval x = .pointer (some ⟨T.g, k * 17 + j, none⟩)) (hy : a.eval y = .int .i64 n) (hT : TN w T) (hk : k < T.N) (hj : j < 17) (hz : ndv z = (ndv (T.m k)).set j (.int .i64 n))
    (h : ∀ w', TN w' { T with m := st T.m k z } → Mod w w' T.p T.g → wpList Tryz.prog ops Q r (a.put o.dst undef) w') : wpList Tryz.prog ops Q (o :: r) a w := by
  refine wpL_sc hgd ho hx hy rfl rfl szI ?_ (hT.free _) (h _ (hT.put hk hj hz) ((Mod.refl _ _ _).cell (.inr rfl) _))
  obtain ⟨v, hv⟩ : ∃ v, (ndv (T.m k))[j]? = some v := ⟨_, List.getElem?_eq_getElem (by rw [ndv_len]; exact hj)⟩
  rw [hT.cell hk hv]; rfl
theorem wpL_tf {T : Tn} {n : Int} (hgd : o.guard = none) (ho : o.op = .store 3 x y) (hx : a.eval x = .pointer (some ⟨T.p, 4, none⟩)) (hy : a.eval y = .int .i64 n) (hT : TN w T)
    (h : ∀ w', TN w' { T with top := n } → Mod w w' T.p T.g → wpList Tryz.prog ops Q r (a.put o.dst undef) w') : wpList Tryz.prog ops Q (o :: r) a w := by
  refine wpL_sc hgd ho hx hy rfl rfl szI ?_ (hT.box.free _) (h _ (hT.top n) ((Mod.refl _ _ _).cell (.inl rfl) _))
  rw [hT.box.cell]; rfl
end
set_option maxRecDepth 100000 in
set_option maxHeartbeats 2000000 in
theorem changeC {T : Tn} {up was now : Int} (w : World) (h : TN w T) (hu : up = -1 ∨ 0 ≤ up ∧ up < T.N) (hn : 0 ≤ now ∧ now < T.N) :
    Calls Tryz.prog 61 #[.pointer (some ⟨T.p, 0, none⟩), .int .i64 up, .int .i64 was, .int .i64 now] w fun e w' => e = .returned (.tuple #[]) ∧ TN w' { T with m := (change T.m T.top up was now).1, top := (change T.m T.top up was now).2 } ∧ Mod w w' T.p T.g := by
  obtain ⟨k, rfl⟩ : ∃ k : Nat, now = k := ⟨now.toNat, by omega⟩
  have hk : k < T.N := by omega
  have k1 : ((k : Int) != -1) = true := by simp only [bne_iff_ne, ne_eq]; omega
  have kn : (k : Int) ≠ -1 := by omega
  have k0 : 0 ≤ (k : Int) ∧ (k : Int) < T.N := hn
  rcases hu with rfl | hu
  · rw [change_top kn]
    have HT := Lib.hid h
    have u1 : ((-1 : Int) == -1) = true := by decide
    go_enter Tryz.func61, Tryz.ntmps61
    have c2 := h.nodes
    go_wp2_with (first | (refine wpL_tf (T := T) (x := .tmp 22) (y := .tmp 20) (n := (k : Int)) (by rfl) (by rfl) (by rfl) (by rfl) HT.out ?_; intro w2 h2 m2; have c3 := h2.nodes) | (refine wpL_nf (T := { T with top := (k : Int) }) (k := k) (j := 13) (x := .tmp 51) (y := .tmp 49) (n := -1) (z := (T.m k).setU (-1)) (by rfl) (by rfl) (by rfl) (by rfl) h2 hk (by decide) (by rfl) ?_; intro w3 h3 m3))
    go_end0
    exact ⟨rfl, h3, m2.trans m3⟩
  · obtain ⟨u, rfl⟩ : ∃ u : Nat, up = u := ⟨up.toNat, by omega⟩
    have hu' : u < T.N := by omega
    have u1 : ((u : Int) == -1) = false := by simp only [beq_eq_false_iff_ne, ne_eq]; omega
    have u0 : 0 ≤ (u : Int) ∧ (u : Int) < T.N := hu
    have un : (u : Int) ≠ -1 := by omega
    have HT := Lib.hid h
    have c2 := h.nodes
    have cu := h.fl hu'
    clear h
    by_cases e : (T.m u).l = was
    · rw [change_l un e kn]
      have e1 : ((T.m u).l == was) = true := by simpa using e
      clear e
      go_enter Tryz.func61, Tryz.ntmps61
      go_wp2_with (first | (refine wpL_nf (T := T) (k := u) (j := 14) (x := .tmp 41) (y := .tmp 39) (n := (k : Int)) (z := (T.m u).setL k) (by rfl) (by rfl) (by rfl) (by rfl) HT.out hu' (by decide) (by rfl) ?_; intro w2 h2 m2; have c3 := h2.nodes) | (refine wpL_nf (T := { T with m := st T.m u ((T.m u).setL k) }) (k := k) (j := 13) (x := .tmp 51) (y := .tmp 49) (n := (u : Int)) (z := (st T.m u ((T.m u).setL k) k).setU u) (by rfl) (by rfl) (by rfl) (by rfl) h2 hk (by decide) (by rfl) ?_; intro w3 h3 m3))
      go_end0
      exact ⟨rfl, h3, m2.trans m3⟩
    · rw [change_r un e kn]
      have e1 : ((T.m u).l == was) = false := by simpa using e
      clear e
      go_enter Tryz.func61, Tryz.ntmps61
      go_wp2_with (first | (refine wpL_nf (T := T) (k := u) (j := 15) (x := .tmp 15) (y := .tmp 13) (n := (k : Int)) (z := (T.m u).setR k) (by rfl) (by rfl) (by rfl) (by rfl) HT.out hu' (by decide) (by rfl) ?_; intro w2 h2 m2; have c3 := h2.nodes) | (refine wpL_nf (T := { T with m := st T.m u ((T.m u).setR k) }) (k := k) (j := 13) (x := .tmp 51) (y := .tmp 49) (n := (u : Int)) (z := (st T.m u ((T.m u).setR k) k).setU u) (by rfl) (by rfl) (by rfl) (by rfl) h2 hk (by decide) (by rfl) ?_; intro w3 h3 m3))
      go_end0
      exact ⟨rfl, h3, m2.trans m3⟩
end TrC
end Go.Proofs.YtbcjnckejkjfeaaGreat
