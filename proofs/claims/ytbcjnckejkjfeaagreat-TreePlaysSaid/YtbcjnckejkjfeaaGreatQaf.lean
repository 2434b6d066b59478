/- Trees of nodes by numbers, plainly: a node lifted above the one over it. No condition. Trees of nodes by numbers, plainly: mending, from a node up. No condition. -/
import Derived.Test.YtbcjnckejkjfeaaGreatQae
namespace Go.NP
set_option linter.unusedVariables false
set_option linter.unusedSimpArgs false
namespace TrP
open Tr Cx
def lowOf (m : M) (ch : Int) : Int := if (m (m ch).l).h > (m (m ch).r).h then (m ch).r else (m ch).l
def highOf (m : M) (ch : Int) : Int := if (m (m ch).l).h > (m (m ch).r).h then (m ch).l else (m ch).r
def lift4 (m2 : M) (at_ ch hi : Int) : M := st (st m2 ch (((m2 ch).setL at_).setR hi)) at_ ((st m2 ch (((m2 ch).setL at_).setR hi) at_).setU ch)
def liftM (m : M) (top at_ ch : Int) : M × Int :=
  let p1 := change m top (m at_).u at_ ch
  let p2 := change p1.1 p1.2 at_ ch (lowOf m ch)
  (again (again (lift4 p2.1 at_ ch (highOf m ch)) at_) ch, p2.2)
/-- A tree and the nodes around it, all places apart. -/
structure Apart (c : Cx) (l : List Int) : Prop where
  nd : l.Nodup
  nc : c.all.Nodup
  dis : ∀ i ∈ l, i ∉ c.all
  pos : ∀ i ∈ l, 0 ≤ i
  posc : ∀ i ∈ c.all, 0 ≤ i
theorem up_in {c : Cx} : c.up = -1 ∨ c.up ∈ c.all := by
  cases c with
  | top => exact .inl rfl
  | inl i c r => exact .inr (List.mem_cons_self ..)
  | inr i l c => exact .inr (List.mem_cons_self ..)
theorem Apart.up {c : Cx} {l : List Int} (h : Apart c l) {i : Int} (hi : i ∈ l) : i ≠ c.up := fun e => by
  rcases up_in (c := c) with h2 | h2
  · have := h.pos i hi; omega
  · exact h.dis i hi (by rw [e]; exact h2)
namespace Tr
/-- How high a tree is. -/
def hgt : Tr → Int
  | leaf _ => 0
  | node _ l r => 1 + max l.hgt r.hgt
/-- No node hangs too far to one side. -/
def Bal : Tr → Prop
  | leaf _ => True
  | node _ l r => l.Bal ∧ r.Bal ∧ l.hgt ≤ r.hgt + 1 ∧ r.hgt ≤ l.hgt + 1
theorem hgt_lt : ∀ t : Tr, 0 ≤ t.hgt ∧ t.hgt < t.all.length
  | leaf i => by simp [hgt, all]
  | node i l r => by
    have := hgt_lt l; have := hgt_lt r
    simp only [hgt, all, List.length_cons, List.length_append]; omega
end Tr
theorem Fit.hgt {m : M} : ∀ {t : Tr}, Fit m t → (m t.ix).h = t.hgt
  | leaf i, h => h.1
  | node i l r, h => by
    show (m i).h = _
    rw [h.2.1, Fit.hgt h.2.2.1, Fit.hgt h.2.2.2]; rfl
/-- A node's two are there, and reckoned. -/
def Kids2 (m : M) (i : Int) (S : List Int) : Prop := ∃ l r : Tr, (m i).l = l.ix ∧ (m i).r = r.ix ∧ Fit m l ∧ Fit m r ∧ (∀ k ∈ l.all ++ r.all, k ∈ S) ∧ l.all.length ≤ S.length ∧ r.all.length ≤ S.length
theorem Kids2.of {m : M} {u i : Int} {l r : Tr} {S : List Int} (h : Rep m u (node i l r)) (hl : Fit m l) (hr : Fit m r) (hS : ∀ k ∈ (node i l r).all, k ∈ S) (hn : (node i l r).all.length ≤ S.length) : Kids2 m i S := by
  simp only [Tr.all, List.length_cons, List.length_append] at hn
  exact ⟨l, r, h.2.2.1, h.2.2.2.1, hl, hr, fun k hk => hS k (List.mem_cons_of_mem _ hk), by omega, by omega⟩
theorem Kids2.mono {m : M} {i : Int} {S S' : List Int} (h : Kids2 m i S) (hS : ∀ k ∈ S, k ∈ S') (hn : S.length ≤ S'.length) : Kids2 m i S' := by
  obtain ⟨l, r, h1, h2, h3, h4, h5, h6, h7⟩ := h
  exact ⟨l, r, h1, h2, h3, h4, fun k hk => hS k (h5 k hk), by omega, by omega⟩
/-- What the walk of a lift asks for. -/
def LiftOK (m : M) (top_ at_ ch : Int) (S : List Int) : Prop :=
  (m ch).l ∈ S ∧ (m ch).r ∈ S ∧ ∃ m4, lift4 (change (change m top_ (m at_).u at_ ch).1 (change m top_ (m at_).u at_ ch).2 at_ ch (lowOf m ch)).1 at_ ch (highOf m ch) = m4 ∧ Kids2 m4 at_ S ∧ Kids2 (again m4 at_) ch S
theorem LiftOK.mono {m : M} {top_ at_ ch : Int} {S S' : List Int} (h : LiftOK m top_ at_ ch S) (hS : ∀ k ∈ S, k ∈ S') (hn : S.length ≤ S'.length) : LiftOK m top_ at_ ch S' := by
  obtain ⟨h1, h2, m4, h3, h4, h5⟩ := h
  exact ⟨hS _ h1, hS _ h2, m4, h3, h4.mono hS hn, h5.mono hS hn⟩
theorem low_high {m : M} {ch : Int} : (m ch).l = lowOf m ch ∧ (m ch).r = highOf m ch ∨ (m ch).l = highOf m ch ∧ (m ch).r = lowOf m ch := by
  unfold lowOf highOf; split
  · exact .inr ⟨rfl, rfl⟩
  · exact .inl ⟨rfl, rfl⟩
theorem lift_r {m : M} {c : Cx} {at_ ch : Int} {l lo hi : Tr} (hu : (m at_).u = c.up) (hn : (m at_).n = 0) (hl : (m at_).l = l.ix) (hr : (m at_).r = ch) (hcn : (m ch).n = 0)
    (hRl : Rep m at_ l) (hRlo : Rep m ch lo) (hRhi : Rep m ch hi) (hFl : Fit m l) (hFlo : Fit m lo) (hFhi : Fit m hi) (hC : RepC m c at_) (hA : Apart c (at_ :: ch :: (l.all ++ (lo.all ++ hi.all)))) (hlo : lowOf m ch = lo.ix) (hhi : highOf m ch = hi.ix) :
    ∃ m', liftM m (c.root at_) at_ ch = (m', c.root ch) ∧ Rep m' c.up (node ch (node at_ l lo) hi) ∧ RepC m' c ch ∧ Fit m' (node ch (node at_ l lo) hi) ∧ (FitC m c → FitC m' c) ∧ Same m m' ∧ (∀ i, i ∉ at_ :: ch :: (l.all ++ (lo.all ++ hi.all)) → i ∉ c.all → m' i = m i) ∧ LiftOK m (c.root at_) at_ ch (at_ :: ch :: (l.all ++ (lo.all ++ hi.all))) := by
  obtain ⟨n1, n2⟩ := List.nodup_cons.1 hA.nd
  obtain ⟨n3, n4⟩ := List.nodup_cons.1 n2
  obtain ⟨n5, n6, n7⟩ := List.nodup_append.1 n4
  obtain ⟨n8, n9, n10⟩ := List.nodup_append.1 n6
  have mat : at_ ∈ at_ :: ch :: (l.all ++ (lo.all ++ hi.all)) := List.mem_cons_self ..
  have mch : ch ∈ at_ :: ch :: (l.all ++ (lo.all ++ hi.all)) := List.mem_cons_of_mem _ (List.mem_cons_self ..)
  have ml : ∀ i ∈ l.all, i ∈ at_ :: ch :: (l.all ++ (lo.all ++ hi.all)) := fun i h => List.mem_cons_of_mem _ (List.mem_cons_of_mem _ (List.mem_append_left _ h))
  have mlo : ∀ i ∈ lo.all, i ∈ at_ :: ch :: (l.all ++ (lo.all ++ hi.all)) := fun i h => List.mem_cons_of_mem _ (List.mem_cons_of_mem _ (List.mem_append_right _ (List.mem_append_left _ h)))
  have mhi : ∀ i ∈ hi.all, i ∈ at_ :: ch :: (l.all ++ (lo.all ++ hi.all)) := fun i h => List.mem_cons_of_mem _ (List.mem_cons_of_mem _ (List.mem_append_right _ (List.mem_append_right _ h)))
  have hac : at_ ≠ ch := fun e => n1 (by rw [e]; exact List.mem_cons_self ..)
  have al : ∀ i ∈ l.all, i ≠ at_ ∧ i ≠ ch := fun i h => ⟨fun e => n1 (by rw [← e]; exact List.mem_cons_of_mem _ (List.mem_append_left _ h)), fun e => n3 (by rw [← e]; exact List.mem_append_left _ h)⟩
  have alo : ∀ i ∈ lo.all, i ≠ at_ ∧ i ≠ ch := fun i h => ⟨fun e => n1 (by rw [← e]; exact List.mem_cons_of_mem _ (List.mem_append_right _ (List.mem_append_left _ h))), fun e => n3 (by rw [← e]; exact List.mem_append_right _ (List.mem_append_left _ h))⟩
  have ahi : ∀ i ∈ hi.all, i ≠ at_ ∧ i ≠ ch := fun i h => ⟨fun e => n1 (by rw [← e]; exact List.mem_cons_of_mem _ (List.mem_append_right _ (List.mem_append_right _ h))), fun e => n3 (by rw [← e]; exact List.mem_append_right _ (List.mem_append_right _ h))⟩
  have llo : ∀ i ∈ l.all, i ≠ lo.ix := fun i h e => n7 i h lo.ix (List.mem_append_left _ lo.ix_all) e
  have lohi : ∀ i ∈ hi.all, i ≠ lo.ix := fun i h e => n10 lo.ix lo.ix_all i h e.symm
  -- the place of at_ goes to ch
  obtain ⟨m1, e1, c1⟩ := change_hole (now := ch) hC (hA.dis at_ mat) (hA.dis ch mch) hA.nc hA.posc (hA.pos ch mch)
  have o1 : ∀ i ∈ at_ :: ch :: (l.all ++ (lo.all ++ hi.all)), i ≠ ch → m1 i = m i := fun i hi hne => c1.oth i hne (hA.up hi)
  have a1 : m1 at_ = m at_ := o1 at_ mat hac
  -- the place of ch goes to the lower one
  have hat0 := hA.pos at_ mat
  have hlo0 := hA.pos lo.ix (mlo _ lo.ix_all)
  have hloat : lo.ix ≠ at_ := (alo _ lo.ix_all).1
  have hloch : lo.ix ≠ ch := (alo _ lo.ix_all).2
  obtain ⟨m2, hm2⟩ : ∃ m2, st (st m1 at_ ((m1 at_).setR lo.ix)) lo.ix ((st m1 at_ ((m1 at_).setR lo.ix) lo.ix).setU at_) = m2 := ⟨_, rfl⟩
  have e2 : change m1 (c.root ch) at_ ch lo.ix = (m2, c.root ch) := by rw [← hm2]; exact change_r (show at_ ≠ -1 by omega) (by rw [a1, hl]; exact (al _ l.ix_all).2) (show lo.ix ≠ -1 by omega)
  have m2at : m2 at_ = (m at_).setR lo.ix := by rw [← hm2, st_ne hloat.symm, st_at, a1]
  have m2lo : m2 lo.ix = (m lo.ix).setU at_ := by rw [← hm2, st_at, st_ne hloat, o1 _ (mlo _ lo.ix_all) hloch]
  have m2o : ∀ i, i ≠ at_ → i ≠ lo.ix → m2 i = m1 i := fun i h1 h2 => by rw [← hm2, st_ne h2, st_ne h1]
  have m2ch : m2 ch = (m ch).setU c.up := by rw [m2o ch hac.symm hloch.symm, c1.at_]
  obtain ⟨m4, hm4⟩ : ∃ m4, lift4 m2 at_ ch hi.ix = m4 := ⟨_, rfl⟩
  have m4ch : m4 ch = (((m ch).setU c.up).setL at_).setR hi.ix := by rw [← hm4, lift4, st_ne hac.symm, st_at, m2ch]
  have m4at : m4 at_ = ((m at_).setR lo.ix).setU ch := by rw [← hm4, lift4, st_at, st_ne hac, m2at]
  have m4o : ∀ i, i ≠ at_ → i ≠ ch → m4 i = m2 i := fun i h1 h2 => by rw [← hm4, lift4, st_ne h1, st_ne h2]
  have m4lo : m4 lo.ix = (m lo.ix).setU at_ := by rw [m4o _ hloat hloch, m2lo]
  have m4t : ∀ i ∈ at_ :: ch :: (l.all ++ (lo.all ++ hi.all)), i ≠ at_ → i ≠ ch → i ≠ lo.ix → m4 i = m i := fun i hi h1 h2 h3 => by rw [m4o i h1 h2, m2o i h1 h3, o1 i hi h2]
  have m4c : ∀ i ∈ c.all, m4 i = m1 i := fun i hi => by
    have h1 : i ≠ at_ := fun e => hA.dis at_ mat (by rw [← e]; exact hi)
    have h2 : i ≠ ch := fun e => hA.dis ch mch (by rw [← e]; exact hi)
    have h3 : i ≠ lo.ix := fun e => hA.dis lo.ix (mlo _ lo.ix_all) (by rw [← e]; exact hi)
    rw [m4o i h1 h2, m2o i h1 h3]
  have m4x : ∀ i, i ∉ at_ :: ch :: (l.all ++ (lo.all ++ hi.all)) → i ∉ c.all → m4 i = m i := fun i h1 h2 => by
    have g1 : i ≠ at_ := fun e => h1 (by rw [e]; exact mat)
    have g2 : i ≠ ch := fun e => h1 (by rw [e]; exact mch)
    have g3 : i ≠ lo.ix := fun e => h1 (by rw [e]; exact mlo _ lo.ix_all)
    by_cases g4 : i = c.up
    · rcases up_in (c := c) with h5 | h5
      · -- nothing hangs above: nothing was written there
        have e6 : c = top := by
          cases c with
          | top => rfl
          | inl j _ _ => have := hA.posc j (List.mem_cons_self ..); simp only [Cx.up] at h5; omega
          | inr j _ _ => have := hA.posc j (List.mem_cons_self ..); simp only [Cx.up] at h5; omega
        subst e6
        rw [m4o i g1 g2, m2o i g1 g3]
        have := congrArg Prod.fst e1
        rw [show (Cx.top.up) = -1 from rfl, change_top (by have := hA.pos ch mch; omega)] at this
        have h7 : st m ch ((m ch).setU (-1)) = m1 := this
        rw [← h7]; exact st_ne g2
      · exact absurd (by rw [g4]; exact h5) h2
    · rw [m4o i g1 g2, m2o i g1 g3, c1.oth i g2 g4]
  -- the tree
  have rl : Rep m4 at_ l := Rep.frame (fun i h => m4t i (ml i h) (al i h).1 (al i h).2 (llo i h)) hRl
  have rlo : Rep m4 at_ lo := Rep.reup hRlo n8 (fun i h hne => m4t i (mlo i h) (alo i h).1 (alo i h).2 hne) m4lo
  have rhi : Rep m4 ch hi := Rep.frame (fun i h => m4t i (mhi i h) (ahi i h).1 (ahi i h).2 (lohi i h)) hRhi
  have rat : Rep m4 ch (node at_ l lo) := by
    unfold Rep
    rw [m4at]
    exact ⟨rfl, hn, hl, rfl, rl, rlo⟩
  have rch : Rep m4 c.up (node ch (node at_ l lo) hi) := by
    unfold Rep
    rw [m4ch]
    exact ⟨rfl, hcn, rfl, rfl, rat, rhi⟩
  have rc : RepC m4 c ch := RepC.frame m4c c1.rep
  have fl : Fit m4 l := hFl.keep fun i h => m4t i (ml i h) (al i h).1 (al i h).2 (llo i h)
  have flo : Fit m4 lo := Fit.frame (fun i h => by
    by_cases e : i = lo.ix
    · rw [e, m4lo]; exact ⟨rfl, rfl, rfl⟩
    · rw [m4t i (mlo i h) (alo i h).1 (alo i h).2 e]; exact ⟨rfl, rfl, rfl⟩) hFlo
  have fhi : Fit m4 hi := hFhi.keep fun i h => m4t i (mhi i h) (ahi i h).1 (ahi i h).2 (lohi i h)
  have fc : FitC m c → FitC m4 c := fun h => FitC.frame (fun i hi => by
    rw [m4c i hi]
    have h2 : i ≠ ch := fun e => hA.dis ch mch (by rw [← e]; exact hi)
    have := c1.upn i h2
    exact ⟨this.1, this.2.1, this.2.2.1⟩) h
  have s4 : Same m m4 := fun i => by
    by_cases g1 : i = at_
    · rw [g1, m4at]; exact ⟨rfl, rfl, fun _ => rfl⟩
    · by_cases g2 : i = ch
      · rw [g2, m4ch]; exact ⟨rfl, rfl, fun _ => rfl⟩
      · by_cases g3 : i = lo.ix
        · rw [g3, m4lo]; exact ⟨rfl, rfl, fun _ => rfl⟩
        · rw [m4o i g1 g2, m2o i g1 g3]
          have := c1.upn i g2
          exact ⟨this.2.1, this.2.2.2.1, fun _ => this.1⟩
  -- reckoned anew, from below
  have ndat : (node at_ l lo).all.Nodup := by
    refine List.nodup_cons.2 ⟨fun h => ?_, List.nodup_append.2 ⟨n5, n8, fun i h1 j h2 e => n7 i h1 j (List.mem_append_left _ h2) e⟩⟩
    rcases List.mem_append.1 h with h | h
    · exact (al at_ h).1 rfl
    · exact (alo at_ h).1 rfl
  have f5 : Fit (again m4 at_) (node at_ l lo) := again_fit rat fl flo ndat
  have k5 : ∀ i ∈ hi.all, again m4 at_ i = m4 i := fun i h => again_ne (ahi i h).1
  have ndch : (node ch (node at_ l lo) hi).all.Nodup := by
    refine List.nodup_cons.2 ⟨fun h => ?_, List.nodup_append.2 ⟨ndat, n9, fun i h1 j h2 e => ?_⟩⟩
    · rcases List.mem_append.1 h with h | h
      · rcases List.mem_cons.1 h with h | h
        · exact hac h.symm
        · rcases List.mem_append.1 h with h | h
          · exact (al ch h).2 rfl
          · exact (alo ch h).2 rfl
      · exact (ahi ch h).2 rfl
    · subst e
      rcases List.mem_cons.1 h1 with h1 | h1
      · exact (ahi i h2).1 h1
      · rcases List.mem_append.1 h1 with h1 | h1
        · exact n7 i h1 i (List.mem_append_right _ h2) rfl
        · exact n10 i h1 i h2 rfl
  have f6 := again_fit (again_rep (j := at_) rch) f5 (fhi.keep k5) ndch
  have z4 : (m4 at_).n = 0 := by rw [m4at]; exact hn
  have z5 : (again m4 at_ ch).n = 0 := by rw [again_ne hac.symm, m4ch]; exact hcn
  have nc5 : ∀ i ∈ c.all, again (again m4 at_) ch i = m4 i := fun i hi => by
    have h1 : i ≠ at_ := fun e => hA.dis at_ mat (by rw [← e]; exact hi)
    have h2 : i ≠ ch := fun e => hA.dis ch mch (by rw [← e]; exact hi)
    rw [again_ne h2, again_ne h1]
  refine ⟨again (again m4 at_) ch, ?_, again_rep (again_rep rch), again_repC (again_repC rc), f6, fun h => (fc h).keep nc5, (s4.trans (again_same z4)).trans (again_same z5), fun i h1 h2 => ?_, ?_⟩
  · unfold liftM
    simp only [hu, e1, hlo, e2, hhi, hm4]
  · have g1 : i ≠ at_ := fun e => h1 (by rw [e]; exact mat)
    have g2 : i ≠ ch := fun e => h1 (by rw [e]; exact mch)
    rw [again_ne g2, again_ne g1]; exact m4x i h1 h2
  · have sub1 : ∀ k ∈ (node at_ l lo).all, k ∈ at_ :: ch :: (l.all ++ (lo.all ++ hi.all)) := fun k h => by
      rcases List.mem_cons.1 h with h | h
      · rw [h]; exact mat
      · rcases List.mem_append.1 h with h | h
        · exact ml k h
        · exact mlo k h
    have sub2 : ∀ k ∈ (node ch (node at_ l lo) hi).all, k ∈ at_ :: ch :: (l.all ++ (lo.all ++ hi.all)) := fun k h => by
      rcases List.mem_cons.1 h with h | h
      · rw [h]; exact mch
      · rcases List.mem_append.1 h with h | h
        · exact sub1 k h
        · exact mhi k h
    have clo := mlo _ lo.ix_all
    have chi := mhi _ hi.ix_all
    rw [← hlo] at clo
    rw [← hhi] at chi
    refine ⟨?_, ?_, m4, by simp only [hu, e1, hlo, e2, hhi, hm4], Kids2.of rat fl flo sub1 (by simp only [Tr.all, List.length_cons, List.length_append]; omega), Kids2.of (again_rep rch) f5 (fhi.keep k5) sub2 (by simp only [Tr.all, List.length_cons, List.length_append]; omega)⟩
    · rcases low_high (m := m) (ch := ch) with ⟨e, _⟩ | ⟨e, _⟩ <;> rw [e] <;> assumption
    · rcases low_high (m := m) (ch := ch) with ⟨_, e⟩ | ⟨_, e⟩ <;> rw [e] <;> assumption
theorem lift_l {m : M} {c : Cx} {at_ ch : Int} {l lo hi : Tr} (hu : (m at_).u = c.up) (hn : (m at_).n = 0) (hl : (m at_).r = l.ix) (hr : (m at_).l = ch) (hcn : (m ch).n = 0)
    (hRl : Rep m at_ l) (hRlo : Rep m ch lo) (hRhi : Rep m ch hi) (hFl : Fit m l) (hFlo : Fit m lo) (hFhi : Fit m hi) (hC : RepC m c at_) (hA : Apart c (at_ :: ch :: (l.all ++ (lo.all ++ hi.all)))) (hlo : lowOf m ch = lo.ix) (hhi : highOf m ch = hi.ix) :
    ∃ m', liftM m (c.root at_) at_ ch = (m', c.root ch) ∧ Rep m' c.up (node ch (node at_ lo l) hi) ∧ RepC m' c ch ∧ Fit m' (node ch (node at_ lo l) hi) ∧ (FitC m c → FitC m' c) ∧ Same m m' ∧ (∀ i, i ∉ at_ :: ch :: (l.all ++ (lo.all ++ hi.all)) → i ∉ c.all → m' i = m i) ∧ LiftOK m (c.root at_) at_ ch (at_ :: ch :: (l.all ++ (lo.all ++ hi.all))) := by
  obtain ⟨n1, n2⟩ := List.nodup_cons.1 hA.nd
  obtain ⟨n3, n4⟩ := List.nodup_cons.1 n2
  obtain ⟨n5, n6, n7⟩ := List.nodup_append.1 n4
  obtain ⟨n8, n9, n10⟩ := List.nodup_append.1 n6
  have mat : at_ ∈ at_ :: ch :: (l.all ++ (lo.all ++ hi.all)) := List.mem_cons_self ..
  have mch : ch ∈ at_ :: ch :: (l.all ++ (lo.all ++ hi.all)) := List.mem_cons_of_mem _ (List.mem_cons_self ..)
  have ml : ∀ i ∈ l.all, i ∈ at_ :: ch :: (l.all ++ (lo.all ++ hi.all)) := fun i h => List.mem_cons_of_mem _ (List.mem_cons_of_mem _ (List.mem_append_left _ h))
  have mlo : ∀ i ∈ lo.all, i ∈ at_ :: ch :: (l.all ++ (lo.all ++ hi.all)) := fun i h => List.mem_cons_of_mem _ (List.mem_cons_of_mem _ (List.mem_append_right _ (List.mem_append_left _ h)))
  have mhi : ∀ i ∈ hi.all, i ∈ at_ :: ch :: (l.all ++ (lo.all ++ hi.all)) := fun i h => List.mem_cons_of_mem _ (List.mem_cons_of_mem _ (List.mem_append_right _ (List.mem_append_right _ h)))
  have hac : at_ ≠ ch := fun e => n1 (by rw [e]; exact List.mem_cons_self ..)
  have al : ∀ i ∈ l.all, i ≠ at_ ∧ i ≠ ch := fun i h => ⟨fun e => n1 (by rw [← e]; exact List.mem_cons_of_mem _ (List.mem_append_left _ h)), fun e => n3 (by rw [← e]; exact List.mem_append_left _ h)⟩
  have alo : ∀ i ∈ lo.all, i ≠ at_ ∧ i ≠ ch := fun i h => ⟨fun e => n1 (by rw [← e]; exact List.mem_cons_of_mem _ (List.mem_append_right _ (List.mem_append_left _ h))), fun e => n3 (by rw [← e]; exact List.mem_append_right _ (List.mem_append_left _ h))⟩
  have ahi : ∀ i ∈ hi.all, i ≠ at_ ∧ i ≠ ch := fun i h => ⟨fun e => n1 (by rw [← e]; exact List.mem_cons_of_mem _ (List.mem_append_right _ (List.mem_append_right _ h))), fun e => n3 (by rw [← e]; exact List.mem_append_right _ (List.mem_append_right _ h))⟩
  have llo : ∀ i ∈ l.all, i ≠ lo.ix := fun i h e => n7 i h lo.ix (List.mem_append_left _ lo.ix_all) e
  have lohi : ∀ i ∈ hi.all, i ≠ lo.ix := fun i h e => n10 lo.ix lo.ix_all i h e.symm
  -- the place of at_ goes to ch
  obtain ⟨m1, e1, c1⟩ := change_hole (now := ch) hC (hA.dis at_ mat) (hA.dis ch mch) hA.nc hA.posc (hA.pos ch mch)
  have o1 : ∀ i ∈ at_ :: ch :: (l.all ++ (lo.all ++ hi.all)), i ≠ ch → m1 i = m i := fun i hi hne => c1.oth i hne (hA.up hi)
  have a1 : m1 at_ = m at_ := o1 at_ mat hac
  -- the place of ch goes to the lower one
  have hat0 := hA.pos at_ mat
  have hlo0 := hA.pos lo.ix (mlo _ lo.ix_all)
  have hloat : lo.ix ≠ at_ := (alo _ lo.ix_all).1
  have hloch : lo.ix ≠ ch := (alo _ lo.ix_all).2
  obtain ⟨m2, hm2⟩ : ∃ m2, st (st m1 at_ ((m1 at_).setL lo.ix)) lo.ix ((st m1 at_ ((m1 at_).setL lo.ix) lo.ix).setU at_) = m2 := ⟨_, rfl⟩
  have e2 : change m1 (c.root ch) at_ ch lo.ix = (m2, c.root ch) := by rw [← hm2]; exact change_l (show at_ ≠ -1 by omega) (by rw [a1, hr]) (show lo.ix ≠ -1 by omega)
  have m2at : m2 at_ = (m at_).setL lo.ix := by rw [← hm2, st_ne hloat.symm, st_at, a1]
  have m2lo : m2 lo.ix = (m lo.ix).setU at_ := by rw [← hm2, st_at, st_ne hloat, o1 _ (mlo _ lo.ix_all) hloch]
  have m2o : ∀ i, i ≠ at_ → i ≠ lo.ix → m2 i = m1 i := fun i h1 h2 => by rw [← hm2, st_ne h2, st_ne h1]
  have m2ch : m2 ch = (m ch).setU c.up := by rw [m2o ch hac.symm hloch.symm, c1.at_]
  obtain ⟨m4, hm4⟩ : ∃ m4, lift4 m2 at_ ch hi.ix = m4 := ⟨_, rfl⟩
  have m4ch : m4 ch = (((m ch).setU c.up).setL at_).setR hi.ix := by rw [← hm4, lift4, st_ne hac.symm, st_at, m2ch]
  have m4at : m4 at_ = ((m at_).setL lo.ix).setU ch := by rw [← hm4, lift4, st_at, st_ne hac, m2at]
  have m4o : ∀ i, i ≠ at_ → i ≠ ch → m4 i = m2 i := fun i h1 h2 => by rw [← hm4, lift4, st_ne h1, st_ne h2]
  have m4lo : m4 lo.ix = (m lo.ix).setU at_ := by rw [m4o _ hloat hloch, m2lo]
  have m4t : ∀ i ∈ at_ :: ch :: (l.all ++ (lo.all ++ hi.all)), i ≠ at_ → i ≠ ch → i ≠ lo.ix → m4 i = m i := fun i hi h1 h2 h3 => by rw [m4o i h1 h2, m2o i h1 h3, o1 i hi h2]
  have m4c : ∀ i ∈ c.all, m4 i = m1 i := fun i hi => by
    have h1 : i ≠ at_ := fun e => hA.dis at_ mat (by rw [← e]; exact hi)
    have h2 : i ≠ ch := fun e => hA.dis ch mch (by rw [← e]; exact hi)
    have h3 : i ≠ lo.ix := fun e => hA.dis lo.ix (mlo _ lo.ix_all) (by rw [← e]; exact hi)
    rw [m4o i h1 h2, m2o i h1 h3]
  have m4x : ∀ i, i ∉ at_ :: ch :: (l.all ++ (lo.all ++ hi.all)) → i ∉ c.all → m4 i = m i := fun i h1 h2 => by
    have g1 : i ≠ at_ := fun e => h1 (by rw [e]; exact mat)
    have g2 : i ≠ ch := fun e => h1 (by rw [e]; exact mch)
    have g3 : i ≠ lo.ix := fun e => h1 (by rw [e]; exact mlo _ lo.ix_all)
    by_cases g4 : i = c.up
    · rcases up_in (c := c) with h5 | h5
      · -- nothing hangs above: nothing was written there
        have e6 : c = top := by
          cases c with
          | top => rfl
          | inl j _ _ => have := hA.posc j (List.mem_cons_self ..); simp only [Cx.up] at h5; omega
          | inr j _ _ => have := hA.posc j (List.mem_cons_self ..); simp only [Cx.up] at h5; omega
        subst e6
        rw [m4o i g1 g2, m2o i g1 g3]
        have := congrArg Prod.fst e1
        rw [show (Cx.top.up) = -1 from rfl, change_top (by have := hA.pos ch mch; omega)] at this
        have h7 : st m ch ((m ch).setU (-1)) = m1 := this
        rw [← h7]; exact st_ne g2
      · exact absurd (by rw [g4]; exact h5) h2
    · rw [m4o i g1 g2, m2o i g1 g3, c1.oth i g2 g4]
  -- the tree
  have rl : Rep m4 at_ l := Rep.frame (fun i h => m4t i (ml i h) (al i h).1 (al i h).2 (llo i h)) hRl
  have rlo : Rep m4 at_ lo := Rep.reup hRlo n8 (fun i h hne => m4t i (mlo i h) (alo i h).1 (alo i h).2 hne) m4lo
  have rhi : Rep m4 ch hi := Rep.frame (fun i h => m4t i (mhi i h) (ahi i h).1 (ahi i h).2 (lohi i h)) hRhi
  have rat : Rep m4 ch (node at_ lo l) := by
    unfold Rep
    rw [m4at]
    exact ⟨rfl, hn, rfl, hl, rlo, rl⟩
  have rch : Rep m4 c.up (node ch (node at_ lo l) hi) := by
    unfold Rep
    rw [m4ch]
    exact ⟨rfl, hcn, rfl, rfl, rat, rhi⟩
  have rc : RepC m4 c ch := RepC.frame m4c c1.rep
  have fl : Fit m4 l := hFl.keep fun i h => m4t i (ml i h) (al i h).1 (al i h).2 (llo i h)
  have flo : Fit m4 lo := Fit.frame (fun i h => by
    by_cases e : i = lo.ix
    · rw [e, m4lo]; exact ⟨rfl, rfl, rfl⟩
    · rw [m4t i (mlo i h) (alo i h).1 (alo i h).2 e]; exact ⟨rfl, rfl, rfl⟩) hFlo
  have fhi : Fit m4 hi := hFhi.keep fun i h => m4t i (mhi i h) (ahi i h).1 (ahi i h).2 (lohi i h)
  have fc : FitC m c → FitC m4 c := fun h => FitC.frame (fun i hi => by
    rw [m4c i hi]
    have h2 : i ≠ ch := fun e => hA.dis ch mch (by rw [← e]; exact hi)
    have := c1.upn i h2
    exact ⟨this.1, this.2.1, this.2.2.1⟩) h
  have s4 : Same m m4 := fun i => by
    by_cases g1 : i = at_
    · rw [g1, m4at]; exact ⟨rfl, rfl, fun _ => rfl⟩
    · by_cases g2 : i = ch
      · rw [g2, m4ch]; exact ⟨rfl, rfl, fun _ => rfl⟩
      · by_cases g3 : i = lo.ix
        · rw [g3, m4lo]; exact ⟨rfl, rfl, fun _ => rfl⟩
        · rw [m4o i g1 g2, m2o i g1 g3]
          have := c1.upn i g2
          exact ⟨this.2.1, this.2.2.2.1, fun _ => this.1⟩
  -- reckoned anew, from below
  have ndat : (node at_ lo l).all.Nodup := by
    refine List.nodup_cons.2 ⟨fun h => ?_, List.nodup_append.2 ⟨n8, n5, fun i h1 j h2 e => n7 j h2 i (List.mem_append_left _ h1) e.symm⟩⟩
    rcases List.mem_append.1 h with h | h
    · exact (alo at_ h).1 rfl
    · exact (al at_ h).1 rfl
  have f5 : Fit (again m4 at_) (node at_ lo l) := again_fit rat flo fl ndat
  have k5 : ∀ i ∈ hi.all, again m4 at_ i = m4 i := fun i h => again_ne (ahi i h).1
  have ndch : (node ch (node at_ lo l) hi).all.Nodup := by
    refine List.nodup_cons.2 ⟨fun h => ?_, List.nodup_append.2 ⟨ndat, n9, fun i h1 j h2 e => ?_⟩⟩
    · rcases List.mem_append.1 h with h | h
      · rcases List.mem_cons.1 h with h | h
        · exact hac h.symm
        · rcases List.mem_append.1 h with h | h
          · exact (alo ch h).2 rfl
          · exact (al ch h).2 rfl
      · exact (ahi ch h).2 rfl
    · subst e
      rcases List.mem_cons.1 h1 with h1 | h1
      · exact (ahi i h2).1 h1
      · rcases List.mem_append.1 h1 with h1 | h1
        · exact n10 i h1 i h2 rfl
        · exact n7 i h1 i (List.mem_append_right _ h2) rfl
  have f6 := again_fit (again_rep (j := at_) rch) f5 (fhi.keep k5) ndch
  have z4 : (m4 at_).n = 0 := by rw [m4at]; exact hn
  have z5 : (again m4 at_ ch).n = 0 := by rw [again_ne hac.symm, m4ch]; exact hcn
  have nc5 : ∀ i ∈ c.all, again (again m4 at_) ch i = m4 i := fun i hi => by
    have h1 : i ≠ at_ := fun e => hA.dis at_ mat (by rw [← e]; exact hi)
    have h2 : i ≠ ch := fun e => hA.dis ch mch (by rw [← e]; exact hi)
    rw [again_ne h2, again_ne h1]
  refine ⟨again (again m4 at_) ch, ?_, again_rep (again_rep rch), again_repC (again_repC rc), f6, fun h => (fc h).keep nc5, (s4.trans (again_same z4)).trans (again_same z5), fun i h1 h2 => ?_, ?_⟩
  · unfold liftM
    simp only [hu, e1, hlo, e2, hhi, hm4]
  · have g1 : i ≠ at_ := fun e => h1 (by rw [e]; exact mat)
    have g2 : i ≠ ch := fun e => h1 (by rw [e]; exact mch)
    rw [again_ne g2, again_ne g1]; exact m4x i h1 h2
  · have sub1 : ∀ k ∈ (node at_ lo l).all, k ∈ at_ :: ch :: (l.all ++ (lo.all ++ hi.all)) := fun k h => by
      rcases List.mem_cons.1 h with h | h
      · rw [h]; exact mat
      · rcases List.mem_append.1 h with h | h
        · exact mlo k h
        · exact ml k h
    have sub2 : ∀ k ∈ (node ch (node at_ lo l) hi).all, k ∈ at_ :: ch :: (l.all ++ (lo.all ++ hi.all)) := fun k h => by
      rcases List.mem_cons.1 h with h | h
      · rw [h]; exact mch
      · rcases List.mem_append.1 h with h | h
        · exact sub1 k h
        · exact mhi k h
    have clo := mlo _ lo.ix_all
    have chi := mhi _ hi.ix_all
    rw [← hlo] at clo
    rw [← hhi] at chi
    refine ⟨?_, ?_, m4, by simp only [hu, e1, hlo, e2, hhi, hm4], Kids2.of rat flo fl sub1 (by simp only [Tr.all, List.length_cons, List.length_append]; omega), Kids2.of (again_rep rch) f5 (fhi.keep k5) sub2 (by simp only [Tr.all, List.length_cons, List.length_append]; omega)⟩
    · rcases low_high (m := m) (ch := ch) with ⟨e, _⟩ | ⟨e, _⟩ <;> rw [e] <;> assumption
    · rcases low_high (m := m) (ch := ch) with ⟨_, e⟩ | ⟨_, e⟩ <;> rw [e] <;> assumption
end TrP
end Go.NP
namespace Go.NP
set_option linter.unusedVariables false
set_option linter.unusedSimpArgs false
namespace TrP
open Tr Cx
/-- A node whose two are reckoned, and the way up from it. -/
structure MendSt (m : M) (top_ : Int) (c : Cx) (i : Int) (l r : Tr) : Prop where
  rep : Rep m c.up (node i l r)
  repc : RepC m c i
  fl : Fit m l
  fr : Fit m r
  fc : FitC m c
  top_is : top_ = c.root i
  ap : Apart c (node i l r).all
/-- One round: the node reckoned anew, and turned. -/
def mend1 (m : M) (top_ i : Int) : M × Int × Int :=
  let m1 := again m i
  let d := (m1 (m1 i).r).h - (m1 (m1 i).l).h
  if d > 1 then ((liftM m1 top_ i (m1 i).r).1, (liftM m1 top_ i (m1 i).r).2, (m1 i).r)
  else if d < -1 then ((liftM m1 top_ i (m1 i).l).1, (liftM m1 top_ i (m1 i).l).2, (m1 i).l)
  else (m1, top_, i)
theorem Fit.frameA {m : M} {i : Int} {t : Tr} (h : Fit m t) (hi : i ∉ t.all) : Fit (again m i) t := h.keep fun j hj => again_ne fun e => hi (by rw [← e]; exact hj)
structure Mended (m m' : M) (c : Cx) (t t' : Tr) : Prop where
  rep : Rep m' c.up t'
  repc : RepC m' c t'.ix
  fit : Fit m' t'
  fc : FitC m' c
  same : Same m m'
  all : t'.all.Perm t.all
  lv : t'.lv.Perm t.lv
  out : ∀ k, k ∉ t.all → k ∉ c.all → m' k = m k
/-- Balance ahead of a round: a node's two, and how high it was before one of them was changed. -/
def Pre (l r : Tr) (H : Int) : Prop := l.Bal ∧ r.Bal ∧ ∃ hl hr : Int, H = 1 + max hl hr ∧ hl ≤ hr + 1 ∧ hr ≤ hl + 1 ∧ (hl = l.hgt ∧ hr ≤ r.hgt + 1 ∧ r.hgt ≤ hr + 1 ∨ hr = r.hgt ∧ hl ≤ l.hgt + 1 ∧ l.hgt ≤ hl + 1 ∨ hl = -1 ∧ hr = -1 ∧ l.hgt = 0 ∧ r.hgt = 0)
/-- Balance around a hole, in which there was a tree so high. -/
def BalC : Cx → Int → Prop
  | top, _ => True
  | inl _ c r, H => r.Bal ∧ H ≤ r.hgt + 1 ∧ r.hgt ≤ H + 1 ∧ BalC c (1 + max H r.hgt)
  | inr _ l c, H => l.Bal ∧ H ≤ l.hgt + 1 ∧ l.hgt ≤ H + 1 ∧ BalC c (1 + max l.hgt H)
/-- What the walk of a round asks for. -/
structure MendOK (m : M) (top_ i : Int) (S : List Int) : Prop where
  kids : Kids2 m i S
  kid1 : Kids2 (again m i) i S
  me : i ∈ S
  up : (again m i i).u = -1 ∨ (again m i i).u ∈ S
  right : (again m i (again m i i).r).h - (again m i (again m i i).l).h > 1 → LiftOK (again m i) top_ i (again m i i).r S
  left : (again m i (again m i i).r).h - (again m i (again m i i).l).h < -1 → LiftOK (again m i) top_ i (again m i i).l S
theorem perm5 {α : Type} (a b : α) (L A B : List α) : (b :: ((a :: (L ++ A)) ++ B)).Perm (a :: b :: (L ++ (A ++ B))) := by
  refine List.Perm.trans (List.Perm.cons b ?_) (List.Perm.swap a b _)
  rw [List.cons_append, List.append_assoc]
theorem mend1_ok {m : M} {top_ : Int} {c : Cx} {i : Int} {l r : Tr} (h : MendSt m top_ c i l r) : ∃ m' t', mend1 m top_ i = (m', c.root t'.ix, t'.ix) ∧ Mended m m' c (node i l r) t' ∧ MendOK m top_ i ((node i l r).all ++ c.all) ∧ ∀ H, Pre l r H → t'.Bal ∧ t'.hgt ≤ H + 1 ∧ H ≤ t'.hgt + 1 := by
  have hn := List.nodup_cons.1 h.ap.nd
  obtain ⟨nl, nr, nd⟩ := List.nodup_append.1 hn.2
  have il : i ∉ l.all := fun hj => hn.1 (List.mem_append_left _ hj)
  have ir : i ∉ r.all := fun hj => hn.1 (List.mem_append_right _ hj)
  have ic : i ∉ c.all := h.ap.dis i (List.mem_cons_self ..)
  have hf := again_fit h.rep h.fl h.fr h.ap.nd
  have hr1 := again_rep (j := i) h.rep
  have hc1 := again_repC (j := i) h.repc
  have hfc1 : FitC (again m i) c := h.fc.keep fun j hj => again_ne fun e => ic (by rw [← e]; exact hj)
  have hs1 : Same m (again m i) := again_same h.rep.2.1
  have ho1 : ∀ k, k ∉ (node i l r).all → k ∉ c.all → again m i k = m k := fun k h1 _ => again_ne fun e => h1 (by rw [e]; exact List.mem_cons_self ..)
  have hat : (again m i i).l = l.ix ∧ (again m i i).r = r.ix := ⟨hr1.2.2.1, hr1.2.2.2.1⟩
  have hL := Fit.high hf.2.2.1
  have hR := Fit.high hf.2.2.2
  have kS : ∀ k ∈ (node i l r).all, k ∈ (node i l r).all ++ c.all := fun k hk => List.mem_append_left _ hk
  have kN : (node i l r).all.length ≤ ((node i l r).all ++ c.all).length := by rw [List.length_append]; omega
  have K0 : Kids2 m i ((node i l r).all ++ c.all) := Kids2.of h.rep h.fl h.fr kS kN
  have K1 : Kids2 (again m i) i ((node i l r).all ++ c.all) := Kids2.of hr1 hf.2.2.1 hf.2.2.2 kS kN
  have KM : i ∈ (node i l r).all ++ c.all := kS i (List.mem_cons_self ..)
  have KU : (again m i i).u = -1 ∨ (again m i i).u ∈ (node i l r).all ++ c.all := by
    have e : (again m i i).u = c.up := hr1.1
    rw [e]
    rcases up_in (c := c) with h | h
    · exact .inl h
    · exact .inr (List.mem_append_right _ h)
  have hgl := Fit.hgt hf.2.2.1
  have hgr := Fit.hgt hf.2.2.2
  suffices hh : ∃ m' t', mend1 m top_ i = (m', c.root t'.ix, t'.ix) ∧ Mended m m' c (node i l r) t' ∧ ((again m i r.ix).h - (again m i l.ix).h > 1 → LiftOK (again m i) top_ i r.ix ((node i l r).all ++ c.all)) ∧ ((again m i r.ix).h - (again m i l.ix).h < -1 → LiftOK (again m i) top_ i l.ix ((node i l r).all ++ c.all)) ∧ ∀ H, Pre l r H → t'.Bal ∧ t'.hgt ≤ H + 1 ∧ H ≤ t'.hgt + 1 by
    obtain ⟨m', t', h1, h2, h3, h4, h5⟩ := hh
    exact ⟨m', t', h1, h2, ⟨K0, K1, KM, KU, by rw [hat.1, hat.2]; exact h3, by rw [hat.1, hat.2]; exact h4⟩, h5⟩
  unfold mend1
  simp only [hat.1, hat.2]
  clear K0 K1 KM KU kS kN
  generalize again m i = m1 at *
  by_cases d1 : (m1 r.ix).h - (m1 l.ix).h > 1
  · rw [if_pos d1]
    obtain ⟨j, a, b, rfl⟩ := hf.2.2.2.two (by omega)
    have rr := hr1.2.2.2.2.2
    have ff := hf.2.2.2
    -- the lower and the higher one
    obtain ⟨lo, hi, hlo, hhi, Rlo, Rhi, Flo, Fhi, pA, pL, pH⟩ : ∃ lo hi : Tr, lowOf m1 j = lo.ix ∧ highOf m1 j = hi.ix ∧ Rep m1 j lo ∧ Rep m1 j hi ∧ Fit m1 lo ∧ Fit m1 hi ∧ (lo.all ++ hi.all).Perm (a.all ++ b.all) ∧ (lo.lv ++ hi.lv).Perm (a.lv ++ b.lv) ∧ (a.hgt ≤ b.hgt ∧ lo = a ∧ hi = b ∨ b.hgt ≤ a.hgt ∧ lo = b ∧ hi = a) := by
      have ha := Fit.hgt ff.2.2.1
      have hb := Fit.hgt ff.2.2.2
      unfold lowOf highOf
      rw [rr.2.2.1, rr.2.2.2.1]
      by_cases e : (m1 a.ix).h > (m1 b.ix).h
      · exact ⟨b, a, by rw [if_pos e], by rw [if_pos e], rr.2.2.2.2.2, rr.2.2.2.2.1, ff.2.2.2, ff.2.2.1, List.perm_append_comm, List.perm_append_comm, .inr ⟨by omega, rfl, rfl⟩⟩
      · exact ⟨a, b, by rw [if_neg e], by rw [if_neg e], rr.2.2.2.2.1, rr.2.2.2.2.2, ff.2.2.1, ff.2.2.2, List.Perm.refl _, List.Perm.refl _, .inl ⟨by omega, rfl, rfl⟩⟩
    have pm : (i :: j :: (l.all ++ (lo.all ++ hi.all))).Perm (node i l (node j a b)).all := by
      refine List.Perm.cons i ?_
      refine List.Perm.trans ?_ (List.perm_middle (l₁ := l.all) (a := j) (l₂ := a.all ++ b.all)).symm
      exact List.Perm.cons j (List.Perm.append_left _ pA)
    have ap : Apart c (i :: j :: (l.all ++ (lo.all ++ hi.all))) := ⟨pm.nodup_iff.2 h.ap.nd, h.ap.nc, fun k hk => h.ap.dis k (pm.mem_iff.1 hk), fun k hk => h.ap.pos k (pm.mem_iff.1 hk), h.ap.posc⟩
    obtain ⟨m', e, q1, q2, q3, q4, q5, q6, q7⟩ := lift_r hr1.1 hr1.2.1 hat.1 hat.2 rr.2.1 hr1.2.2.2.2.1 Rlo Rhi hf.2.2.1 Flo Fhi hc1 ap hlo hhi
    rw [h.top_is]
    show ∃ m' t', ((liftM m1 (c.root i) i j).1, (liftM m1 (c.root i) i j).2, j) = _ ∧ _
    have pS : ∀ k ∈ i :: j :: (l.all ++ (lo.all ++ hi.all)), k ∈ (node i l (node j a b)).all ++ c.all := fun k hk => List.mem_append_left _ (pm.mem_iff.1 hk)
    have pN : (i :: j :: (l.all ++ (lo.all ++ hi.all))).length ≤ ((node i l (node j a b)).all ++ c.all).length := by rw [List.length_append, pm.length_eq]; omega
    have e' : liftM m1 (c.root i) i j = (m', c.root j) := e
    rw [e']
    refine ⟨m', node j (node i l lo) hi, rfl, ⟨q1, q2, q3, q4 hfc1, hs1.trans q5, (perm5 i j l.all lo.all hi.all).trans pm, ?_, fun k h1 h2 => (q6 k (fun hk => h1 (pm.mem_iff.1 hk)) h2).trans (ho1 k h1 h2)⟩, fun _ => q7.mono pS pN, fun hx => absurd hx (by omega), fun H hP => ?_⟩
    rotate_left
    · obtain ⟨bl, br, hl, hr, e1, e2, e3, e4⟩ := hP
      have d1' : 1 < (node j a b).hgt - l.hgt := by rw [← hgl, ← hgr]; exact d1
      obtain ⟨b1, b2, b3, b4⟩ := br
      clear hgl hgr d1
      rcases pH with ⟨o1, rfl, rfl⟩ | ⟨o1, rfl, rfl⟩
      · simp only [hgt] at *
        exact ⟨⟨⟨bl, b1, by omega, by omega⟩, b2, by simp only [hgt]; omega, by simp only [hgt]; omega⟩, by omega, by omega⟩
      · simp only [hgt] at *
        exact ⟨⟨⟨bl, b2, by omega, by omega⟩, b1, by simp only [hgt]; omega, by simp only [hgt]; omega⟩, by omega, by omega⟩
    show ((l.lv ++ lo.lv) ++ hi.lv).Perm (l.lv ++ (a.lv ++ b.lv))
    rw [List.append_assoc]
    exact List.Perm.append_left _ pL
  · rw [if_neg d1]
    by_cases d2 : (m1 r.ix).h - (m1 l.ix).h < -1
    · rw [if_pos d2]
      obtain ⟨j, a, b, rfl⟩ := hf.2.2.1.two (by omega)
      have rr := hr1.2.2.2.2.1
      have ff := hf.2.2.1
      obtain ⟨lo, hi, hlo, hhi, Rlo, Rhi, Flo, Fhi, pA, pL, pH⟩ : ∃ lo hi : Tr, lowOf m1 j = lo.ix ∧ highOf m1 j = hi.ix ∧ Rep m1 j lo ∧ Rep m1 j hi ∧ Fit m1 lo ∧ Fit m1 hi ∧ (lo.all ++ hi.all).Perm (a.all ++ b.all) ∧ (lo.lv ++ hi.lv).Perm (a.lv ++ b.lv) ∧ (a.hgt ≤ b.hgt ∧ lo = a ∧ hi = b ∨ b.hgt ≤ a.hgt ∧ lo = b ∧ hi = a) := by
        have ha := Fit.hgt ff.2.2.1
        have hb := Fit.hgt ff.2.2.2
        unfold lowOf highOf
        rw [rr.2.2.1, rr.2.2.2.1]
        by_cases e : (m1 a.ix).h > (m1 b.ix).h
        · exact ⟨b, a, by rw [if_pos e], by rw [if_pos e], rr.2.2.2.2.2, rr.2.2.2.2.1, ff.2.2.2, ff.2.2.1, List.perm_append_comm, List.perm_append_comm, .inr ⟨by omega, rfl, rfl⟩⟩
        · exact ⟨a, b, by rw [if_neg e], by rw [if_neg e], rr.2.2.2.2.1, rr.2.2.2.2.2, ff.2.2.1, ff.2.2.2, List.Perm.refl _, List.Perm.refl _, .inl ⟨by omega, rfl, rfl⟩⟩
      have pm : (i :: j :: (r.all ++ (lo.all ++ hi.all))).Perm (node i (node j a b) r).all := by
        refine List.Perm.cons i ?_
        show (j :: (r.all ++ (lo.all ++ hi.all))).Perm (j :: (a.all ++ b.all) ++ r.all)
        rw [List.cons_append]
        exact List.Perm.cons j (List.perm_append_comm.trans (List.Perm.append_right _ pA))
      have ap : Apart c (i :: j :: (r.all ++ (lo.all ++ hi.all))) := ⟨pm.nodup_iff.2 h.ap.nd, h.ap.nc, fun k hk => h.ap.dis k (pm.mem_iff.1 hk), fun k hk => h.ap.pos k (pm.mem_iff.1 hk), h.ap.posc⟩
      obtain ⟨m', e, q1, q2, q3, q4, q5, q6, q7⟩ := lift_l hr1.1 hr1.2.1 hat.2 hat.1 rr.2.1 hr1.2.2.2.2.2 Rlo Rhi hf.2.2.2 Flo Fhi hc1 ap hlo hhi
      rw [h.top_is]
      show ∃ m' t', ((liftM m1 (c.root i) i j).1, (liftM m1 (c.root i) i j).2, j) = _ ∧ _
      have pS : ∀ k ∈ i :: j :: (r.all ++ (lo.all ++ hi.all)), k ∈ (node i (node j a b) r).all ++ c.all := fun k hk => List.mem_append_left _ (pm.mem_iff.1 hk)
      have pN : (i :: j :: (r.all ++ (lo.all ++ hi.all))).length ≤ ((node i (node j a b) r).all ++ c.all).length := by rw [List.length_append, pm.length_eq]; omega
      have e' : liftM m1 (c.root i) i j = (m', c.root j) := e
      rw [e']
      refine ⟨m', node j (node i lo r) hi, rfl, ⟨q1, q2, q3, q4 hfc1, hs1.trans q5, ?_, ?_, fun k h1 h2 => (q6 k (fun hk => h1 (pm.mem_iff.1 hk)) h2).trans (ho1 k h1 h2)⟩, fun hx => absurd hx d1, fun _ => q7.mono pS pN, fun H hP => ?_⟩
      rotate_left 2
      · obtain ⟨bl, br, hl, hr, e1, e2, e3, e4⟩ := hP
        have d1' : 1 < (node j a b).hgt - r.hgt := by rw [← hgl, ← hgr]; omega
        obtain ⟨b1, b2, b3, b4⟩ := bl
        clear hgl hgr d1 d2
        rcases pH with ⟨o1, rfl, rfl⟩ | ⟨o1, rfl, rfl⟩
        · simp only [hgt] at *
          exact ⟨⟨⟨b1, br, by omega, by omega⟩, b2, by simp only [hgt]; omega, by simp only [hgt]; omega⟩, by omega, by omega⟩
        · simp only [hgt] at *
          exact ⟨⟨⟨b2, br, by omega, by omega⟩, b1, by simp only [hgt]; omega, by simp only [hgt]; omega⟩, by omega, by omega⟩
      · refine List.Perm.trans ?_ pm
        refine List.Perm.trans ?_ (perm5 i j r.all lo.all hi.all)
        refine List.Perm.cons j (List.Perm.append_right _ (List.Perm.cons i List.perm_append_comm))
      · show ((lo.lv ++ r.lv) ++ hi.lv).Perm ((a.lv ++ b.lv) ++ r.lv)
        rw [List.append_assoc]
        refine (List.Perm.append_left lo.lv List.perm_append_comm).trans ?_
        rw [← List.append_assoc]
        exact List.Perm.append_right _ pL
    · rw [if_neg d2, h.top_is]
      refine ⟨m1, node i l r, rfl, ⟨hr1, hc1, hf, hfc1, hs1, List.Perm.refl _, List.Perm.refl _, ho1⟩, fun hx => absurd hx d1, fun hx => absurd hx d2, fun H hP => ?_⟩
      obtain ⟨bl, br, hl, hr, e1, e2, e3, e4⟩ := hP
      rw [hgl, hgr] at d1 d2
      clear hgl hgr
      simp only [hgt]
      exact ⟨⟨bl, br, by omega, by omega⟩, by omega, by omega⟩
theorem MendOK.mono {m : M} {top_ i : Int} {S S' : List Int} (h : MendOK m top_ i S) (hS : ∀ k ∈ S, k ∈ S') (hn : S.length ≤ S'.length) : MendOK m top_ i S' :=
  ⟨h.kids.mono hS hn, h.kid1.mono hS hn, hS _ h.me, h.up.imp id (hS _), fun hx => (h.right hx).mono hS hn, fun hx => (h.left hx).mono hS hn⟩
/-- While the tree is mended: k rounds are left. -/
structure Kept (m0 m : M) (all0 : List Int) : Prop where
  same : Same m0 m
  out : ∀ k, k ∉ all0 → m k = m0 k
def MI (m0 m : M) (top_ at_ : Int) (k : Nat) (all0 lv0 : List Int) : Prop :=
  Kept m0 m all0 ∧ ((at_ = -1 ∧ k = 0 ∧ ∃ T, Rep m (-1) T ∧ Fit m T ∧ T.all.Perm all0 ∧ T.lv.Perm lv0 ∧ top_ = T.ix ∧ T.Bal) ∨
    ∃ c i l r, at_ = i ∧ k = c.len + 1 ∧ MendSt m top_ c i l r ∧ (∃ H, Pre l r H ∧ BalC c H) ∧ ((node i l r).all ++ c.all).Perm all0 ∧ ((node i l r).lv ++ c.lv).Perm lv0)
theorem Apart.node_l {c : Cx} {i : Int} {t r : Tr} {L : List Int} (h : Apart (inl i c r) L) (hp : t.all.Perm L) : Apart c (node i t r).all := by
  have hc := List.nodup_cons.1 h.nc
  obtain ⟨h1, h2, h3⟩ := List.nodup_append.1 hc.2
  refine ⟨List.nodup_cons.2 ⟨fun hm => ?_, List.nodup_append.2 ⟨hp.nodup_iff.2 h.nd, h1, fun a ha b hb e => ?_⟩⟩, h2, fun a ha => ?_, fun a ha => ?_, fun a ha => h.posc a (List.mem_cons_of_mem _ (List.mem_append_right _ ha))⟩
  · rcases List.mem_append.1 hm with hm | hm
    · exact h.dis i (hp.mem_iff.1 hm) (List.mem_cons_self ..)
    · exact hc.1 (List.mem_append_left _ hm)
  · subst e; exact h.dis a (hp.mem_iff.1 ha) (List.mem_cons_of_mem _ (List.mem_append_left _ hb))
  · rcases List.mem_cons.1 ha with rfl | ha
    · exact fun hm => hc.1 (List.mem_append_right _ hm)
    · rcases List.mem_append.1 ha with ha | ha
      · exact fun hm => h.dis a (hp.mem_iff.1 ha) (List.mem_cons_of_mem _ (List.mem_append_right _ hm))
      · exact fun hm => h3 a ha a hm rfl
  · rcases List.mem_cons.1 ha with rfl | ha
    · exact h.posc a (List.mem_cons_self ..)
    · rcases List.mem_append.1 ha with ha | ha
      · exact h.pos a (hp.mem_iff.1 ha)
      · exact h.posc a (List.mem_cons_of_mem _ (List.mem_append_left _ ha))
theorem Apart.node_r {c : Cx} {i : Int} {t l : Tr} {L : List Int} (h : Apart (inr i l c) L) (hp : t.all.Perm L) : Apart c (node i l t).all := by
  have := Apart.node_l (c := c) (i := i) (r := l) (t := t) (L := L) ⟨h.nd, h.nc, h.dis, h.pos, h.posc⟩ hp
  have pm : (node i l t).all.Perm (node i t l).all := List.Perm.cons i List.perm_append_comm
  exact ⟨pm.nodup_iff.2 this.nd, this.nc, fun k hk => this.dis k (pm.mem_iff.1 hk), fun k hk => this.pos k (pm.mem_iff.1 hk), this.posc⟩
theorem MI.step {m0 m : M} {top_ at_ : Int} {k : Nat} {all0 lv0 : List Int} (h : MI m0 m top_ at_ k all0 lv0) (hne : at_ ≠ -1) :
    ∃ k', k = k' + 1 ∧ MI m0 (mend1 m top_ at_).1 (mend1 m top_ at_).2.1 ((mend1 m top_ at_).1 (mend1 m top_ at_).2.2).u k' all0 lv0 ∧ MendOK m top_ at_ all0 := by
  obtain ⟨hK, ⟨h1, _⟩ | ⟨c, _, l, r, rfl, hk, hM, ⟨H, hB, hBC⟩, hA, hL⟩⟩ := h
  · exact absurd h1 hne
  obtain ⟨m', t', e, q, hO, hBal⟩ := mend1_ok hM
  obtain ⟨tb, th1, th2⟩ := hBal H hB
  rw [e]
  refine ⟨c.len, hk, ?_, hO.mono (fun k hk => hA.mem_iff.1 hk) (Nat.le_of_eq hA.length_eq)⟩
  refine ⟨⟨hK.same.trans q.same, fun j hj => ?_⟩, ?_⟩
  · rw [← hK.out j hj]
    exact q.out j (fun hm => hj (hA.mem_iff.1 (List.mem_append_left _ hm))) (fun hm => hj (hA.mem_iff.1 (List.mem_append_right _ hm)))
  · show (((m' t'.ix).u = -1 ∧ c.len = 0 ∧ _) ∨ _)
    rw [q.rep.up]
    cases c with
    | top =>
      refine .inl ⟨rfl, rfl, t', q.rep, q.fit, ?_, ?_, rfl, tb⟩
      · refine q.all.trans ?_
        simpa [Cx.all] using hA
      · refine q.lv.trans ?_
        simpa [Cx.lv] using hL
    | inl j c r2 =>
      refine .inr ⟨c, j, t', r2, rfl, rfl, ⟨?_, q.repc.2.2.2.2.2, q.fit, q.fc.1, q.fc.2, rfl, hM.ap.node_l q.all⟩, ⟨_, ⟨tb, hBC.1, H, r2.hgt, rfl, hBC.2.1, hBC.2.2.1, .inr (.inl ⟨rfl, by omega, by omega⟩)⟩, hBC.2.2.2⟩, ?_, ?_⟩
      · exact ⟨q.repc.1, q.repc.2.1, q.repc.2.2.1, q.repc.2.2.2.1, q.rep, q.repc.2.2.2.2.1⟩
      · refine List.Perm.trans ?_ hA
        show ((j :: (t'.all ++ r2.all)) ++ c.all).Perm ((node at_ l r).all ++ (j :: (r2.all ++ c.all)))
        refine List.Perm.trans ?_ (List.perm_middle (l₁ := (node at_ l r).all) (a := j) (l₂ := r2.all ++ c.all)).symm
        rw [List.cons_append, List.append_assoc]
        exact List.Perm.cons j (List.Perm.append_right _ q.all)
      · refine List.Perm.trans ?_ hL
        show ((t'.lv ++ r2.lv) ++ c.lv).Perm ((node at_ l r).lv ++ (r2.lv ++ c.lv))
        rw [List.append_assoc]
        exact List.Perm.append_right _ q.lv
    | inr j l2 c =>
      refine .inr ⟨c, j, l2, t', rfl, rfl, ⟨?_, q.repc.2.2.2.2.2, q.fc.1, q.fit, q.fc.2, rfl, hM.ap.node_r q.all⟩, ⟨_, ⟨hBC.1, tb, l2.hgt, H, rfl, hBC.2.2.1, hBC.2.1, .inl ⟨rfl, by omega, by omega⟩⟩, hBC.2.2.2⟩, ?_, ?_⟩
      · exact ⟨q.repc.1, q.repc.2.1, q.repc.2.2.1, q.repc.2.2.2.1, q.repc.2.2.2.2.1, q.rep⟩
      · refine List.Perm.trans ?_ hA
        show ((j :: (l2.all ++ t'.all)) ++ c.all).Perm ((node at_ l r).all ++ (j :: (l2.all ++ c.all)))
        refine List.Perm.trans ?_ (List.perm_middle (l₁ := (node at_ l r).all) (a := j) (l₂ := l2.all ++ c.all)).symm
        rw [List.cons_append]
        refine List.Perm.cons j ?_
        rw [← List.append_assoc]
        exact List.Perm.append_right _ (List.perm_append_comm.trans (List.Perm.append_right _ q.all))
      · refine List.Perm.trans ?_ hL
        show ((l2.lv ++ t'.lv) ++ c.lv).Perm ((node at_ l r).lv ++ (l2.lv ++ c.lv))
        rw [← List.append_assoc]
        exact List.Perm.append_right _ (List.perm_append_comm.trans (List.Perm.append_right _ q.lv))
end TrP
end Go.NP
