/- Mending from a node up: the walk. Condition: what is so while a tree is mended, and all its places lie in the nodes. -/
import Derived.Test.YtbcjnckejkjfeaaTrF
namespace Go.Proofs.Ytbcjnckejkjfeaa
set_option linter.unusedVariables false
set_option linter.unusedSimpArgs false
open Go.RowKit Go.NP
namespace TrG
open TrP TrW TrC TrA TrF
theorem least_ex {P : Nat → Prop} : ∀ n, P n → ∃ k, P k ∧ ∀ j, P j → k ≤ j := by
  intro n
  induction n using Nat.strongRecOn with
  | _ n ih =>
    intro h
    by_cases e : ∃ j, j < n ∧ P j
    · obtain ⟨j, hj, hp⟩ := e; exact ih j hj hp
    · exact ⟨n, h, fun j hj => Nat.le_of_not_lt fun hl => e ⟨j, hl, hj⟩⟩
/-- The least number of which something is so. -/
noncomputable def least (P : Nat → Prop) : Nat := open Classical in if h : ∃ k, P k ∧ ∀ j, P j → k ≤ j then Classical.choose h else 0
theorem least_ok {P : Nat → Prop} {n : Nat} (h : P n) : P (least P) ∧ ∀ j, P j → least P ≤ j := by
  have hx := least_ex n h
  unfold least; rw [dif_pos hx]; exact Classical.choose_spec hx
/-- All places lie in the nodes, and they are not many. -/
structure In (S : List Int) (N : Nat) : Prop where
  mem : ∀ i ∈ S, 0 ≤ i ∧ i < N
  len : S.length ≤ 100000
theorem kids_of {m : M} {i : Int} {S : List Int} {N : Nat} (h : Kids2 m i S) (hS : In S N) : TrF.Kids m N i := by
  obtain ⟨l, r, h1, h2, h3, h4, h5, h6, h7⟩ := h
  have a1 := hS.mem l.ix (h5 _ (List.mem_append_left _ l.ix_all))
  have a2 := hS.mem r.ix (h5 _ (List.mem_append_right _ r.ix_all))
  have b1 := l.hgt_lt; have b2 := r.hgt_lt
  have c1 := Fit.hgt h3; have c2 := Fit.hgt h4
  have := hS.len
  refine ⟨l.ix.toNat, r.ix.toNat, ?_, by omega, ?_, by omega, ?_⟩
  · rw [h1]; omega
  · rw [h2]; omega
  · rw [Int.toNat_of_nonneg a1.1, Int.toNat_of_nonneg a2.1, c1, c2]; omega
theorem liftK {T : Tn} {a k : Nat} {S : List Int} (w : World) (h : TN w T) (ha : a < T.N) (hk : k < T.N) (hu : (T.m a).u = -1 ∨ (T.m a).u ∈ S) (hO : LiftOK T.m T.top a k S) (hS : In S T.N) :
    Calls Try.prog 71 #[.pointer (some ⟨T.p, 0, none⟩), .int .i64 (a : Int), .int .i64 (k : Int)] w fun e w' => e = .returned (.int .i64 (k : Int)) ∧ TN w' { T with m := (TrP.liftM T.m T.top a k).1, top := (TrP.liftM T.m T.top a k).2 } ∧ Mod w w' T.p T.g := by
  obtain ⟨h1, h2, m4, h3, h4, h5⟩ := hO
  have a1 := hS.mem _ h1
  have a2 := hS.mem _ h2
  have := liftC (lo0 := (T.m k).l.toNat) (hi0 := (T.m k).r.toNat) (m4 := m4) w h ha hk (by omega) (by omega) (by omega) (by omega) (hu.imp id (hS.mem _)) h3 rfl (kids_of h4 hS) (kids_of h5 hS)
  unfold TrP.liftM
  simp only [h3]
  exact this
section
variable (m0 : M) (all0 lv0 : List Int) (T0 : Tn) (w0 : World)
/-- The state of the mending. -/
structure St (wr : World) (at_ : Int) (k : Nat) (m : M) (t : Int) : Prop where
  tn : TN wr { T0 with m := m, top := t }
  mi : MI m0 m t at_ k all0 lv0
  mod : Mod w0 wr T0.p T0.g
end
set_option maxRecDepth 100000 in
set_option maxHeartbeats 4000000 in
theorem mendC {T : Tn} {at0 : Int} {k0 : Nat} {m0 : M} {all0 lv0 : List Int} (w : World) (h : TN w T) (hI : MI m0 T.m T.top at0 k0 all0 lv0) (hS : In all0 T.N) :
    Calls Try.prog 51 #[.pointer (some ⟨T.p, 0, none⟩), .int .i64 at0] w fun e w' => e = .returned (.tuple #[]) ∧ ∃ m t k, TN w' { T with m := m, top := t } ∧ MI m0 m t (-1) k all0 lv0 ∧ Mod w w' T.p T.g := by
  have H0 : St m0 all0 lv0 T w w at0 k0 T.m T.top := ⟨h, hI, Mod.refl _ _ _⟩
  have HS := Lib.hid hS
  clear h hI hS
  go_enter Try.func51, Try.ntmps51
  go_wp2_with fail
  go_loopw [1] (fun i wr => ∃ (a : Int) (k : Nat) (m : M) (t : Int), i = .int .i64 a ∧ St m0 all0 lv0 T w wr a k m t) (fun i wr => least (fun k => ∃ m t, St m0 all0 lv0 T w wr (intOf i) k m t))
  case atStart => exact ⟨at0, k0, T.m, T.top, rfl, H0⟩
  case round =>
    obtain ⟨a, k1, m1, t1, rfl, hst⟩ := hrel
    obtain ⟨⟨m, t, hst⟩, _⟩ := least_ok (P := fun k => ∃ m t, St m0 all0 lv0 T w wr a k m t) ⟨m1, t1, hst⟩
    obtain ⟨k, hk⟩ : ∃ k, least (fun k => ∃ m t, St m0 all0 lv0 T w wr a k m t) = k := ⟨_, rfl⟩
    rw [hk] at hst
    have HK := Lib.hid hk
    clear hk H0
    by_cases e : a = -1
    · subst e
      have F := Lib.hid hst
      clear hst HK
      go_wp2_with fail
      go_end0
      exact ⟨rfl, m, t, k, F.out.tn, F.out.mi, F.out.mod⟩
    · have e1 : (a != -1) = true := by simpa using e
      obtain ⟨k', hk', hM, hO⟩ := hst.mi.step e
      obtain ⟨i, rfl⟩ : ∃ i : Nat, a = i := ⟨a.toNat, by have := HS.out.mem _ hO.me; omega⟩
      have hiN : i < T.N := by have := HS.out.mem _ hO.me; omega
      have FIN := Lib.hid (fun (w' : World) (a' : Int) (m' : M) (t' : Int) (hs : St m0 all0 lv0 T w w' a' k' m' t') => (show (∃ (a : Int) (k : Nat) (m : M) (t : Int), Value.int .i64 a' = .int .i64 a ∧ St m0 all0 lv0 T w w' a k m t) ∧
          least (fun k => ∃ m t, St m0 all0 lv0 T w w' (intOf (.int .i64 a')) k m t) < least (fun k => ∃ m t, St m0 all0 lv0 T w wr (intOf (.int .i64 (i : Int))) k m t) from
        ⟨⟨a', k', m', t', rfl, hs⟩, Nat.lt_of_le_of_lt ((least_ok (P := fun k => ∃ m t, St m0 all0 lv0 T w w' a' k m t) (n := k') ⟨m', t', hs⟩).2 k' ⟨m', t', hs⟩) (by have := HK.out; show k' < least (fun k => ∃ m t, St m0 all0 lv0 T w wr (i : Int) k m t); omega)⟩))
      have HO := Lib.hid hO
      have HM := Lib.hid hM
      have hT := Lib.hid hst.tn
      have hMo := hst.mod
      clear hst hM hO e
      go_wp2_with fail
      refine (againK (T := { T with m := m, top := t }) wr hT.out hiN (kids_of HO.out.kids HS.out)).mono ?_
      rintro e w1 ⟨rfl, h1, m1⟩
      have M1 := hMo.trans m1
      obtain ⟨m2, hm2⟩ : ∃ m2, TrP.again m i = m2 := ⟨_, rfl⟩
      have hme : mend1 m t i = if (m2 (m2 i).r).h - (m2 (m2 i).l).h > 1 then ((TrP.liftM m2 t i (m2 i).r).1, (TrP.liftM m2 t i (m2 i).r).2, (m2 i).r) else if (m2 (m2 i).r).h - (m2 (m2 i).l).h < -1 then ((TrP.liftM m2 t i (m2 i).l).1, (TrP.liftM m2 t i (m2 i).l).2, (m2 i).l) else (m2, t, (i : Int)) := by unfold mend1; rw [hm2]
      obtain ⟨O1, O2, O3, O4, O5, O6⟩ := HO.out
      rw [hm2] at O2 O4 O5 O6
      replace h1 : TN w1 { T with m := m2, top := t } := by rw [← hm2]; exact h1
      clear HO O1 O3 hm2 hMo hT m1
      have KK := kids_of O2 HS.out
      obtain ⟨p, q, hp, hpN, hq, hqN, b1, b2, b3, b4⟩ := KK
      rw [hp, hq] at hme
      have R5 := Lib.hid O5; have R6 := Lib.hid O6; have RU := Lib.hid O4; have ME := Lib.hid hme
      clear O2 O4 O5 O6 hme
      have hat : At' w1 T.g (i * 17) (ndv (m2 i)) := TN.at h1 hiN
      have c2 : w1.cell? ⟨T.p, 2, none⟩ = some (.slice (some ⟨T.g, 0, none⟩) T.N T.cap) := h1.nodes
      have i0 : 0 ≤ (i : Int) ∧ (i : Int) < T.N := by omega
      go_wp2_with (refine wpL_at (l := ndv (m2 i)) (by rfl) (by rfl) hat Try.underlying71 (by rfl) (szN _) (by kernel_rfl) ?_; (conv => arg 5; simp only [Act.put, List.setIfInBounds_toArray, List.set_cons_zero, List.set_cons_succ]); refine wpL_go (v := .pointer (some ⟨w1.heap.size, 0, none⟩)) (w' := w1.alloc (.cells [.int .i64 0, .int .i64 0, .int .i64 0, .int .i64 0, .int .i64 0, .int .i64 0, .int .i64 0, .int .i64 0, .int .i64 0, .int .i64 0, .int .i64 0, .int .i64 0, .int .i64 0, .int .i64 0, .int .i64 0, .int .i64 0, .int .i64 0].toArray 71)) (by kernel_rfl) (by go_simp) ?_; (conv => arg 5; simp only [Act.put, List.setIfInBounds_toArray, List.set_cons_zero, List.set_cons_succ]); refine wpL_store (cs := ndv (m2 i)) (by rfl) (by rfl) (by rfl) (Box.new rfl) (szN _) (by rfl) (nd_one _) (by kernel_rfl) ?_; (conv => arg 5; simp only [Act.put, List.setIfInBounds_toArray, List.set_cons_zero, List.set_cons_succ]); rw [alloc_setRow]; refine wpList_nil ?_)
      have hS2 : Below w1.heap.size w1 (w1.alloc (.cells (ndv (m2 i)).toArray 71)) := (Below.refl _ _).alloc (Nat.le_refl _) _
      have B2 : Box (w1.alloc (.cells (ndv (m2 i)).toArray 71)) w1.heap.size (ndv (m2 i)) 71 := Box.new rfl
      revert hS2 B2
      generalize w1.alloc (.cells (ndv (m2 i)).toArray 71) = w2
      obtain ⟨g1, hg1⟩ : ∃ g1, w1.heap.size = g1 := ⟨_, rfl⟩
      intro hS2 B2
      have h2 := h1.step hS2
      have M2 := M1.trans (Mod.of_below (p := T.p) (g := T.g) hS2)
      rw [hg1] at B2
      rw [hg1]
      clear h1 M1 c2 hat hS2 hg1
      have B3 := Lib.hid B2; have H2 := Lib.hid h2
      have c2 : w2.cell? ⟨T.p, 2, none⟩ = some (.slice (some ⟨T.g, 0, none⟩) T.N T.cap) := h2.nodes
      have cl : w2.cell? ⟨g1, 14, none⟩ = some (.int .i64 (p : Int)) := by rw [B2.cell, ← hp]; rfl
      have cr : w2.cell? ⟨g1, 15, none⟩ = some (.int .i64 (q : Int)) := by rw [B2.cell, ← hq]; rfl
      have hgg : g1 < w2.heap.size := B2.lt
      have chp : w2.cell? ⟨T.g, p * 17 + 16, none⟩ = some (.int .i64 (m2 p).h) := h2.cell hpN rfl
      have chq : w2.cell? ⟨T.g, q * 17 + 16, none⟩ = some (.int .i64 (m2 q).h) := h2.cell hqN rfl
      obtain ⟨hgp, hgl⟩ := TN.lt h2
      have hgp : T.p < w2.heap.size := hgp
      have hgl : T.g < w2.heap.size := hgl
      have p0 : 0 ≤ (p : Int) ∧ (p : Int) < T.N := by omega
      have q0 : 0 ≤ (q : Int) ∧ (q : Int) < T.N := by omega
      clear B2 h2
      go_wp2_with fail
      refine wp_region_ph [(20, .free [])] (by kernel_rfl) (by kernel_rfl) ?_
      refine Ph.belowd ?_
      simp only [List.drop_succ_cons, List.drop_zero, List.take_succ_cons, List.take_zero, Nat.reduceSub, Nat.sub_zero]
      iterate 20 (refine SeqO.val (v := ?_) (by rfl) (by rfl) (fun w1 hS => ?_) ?_; rotate_left; (· obtain ⟨hc, hcf⟩ := bcell hS; go_simp; try with_reducible rfl); simp only [Act.put, List.setIfInBounds_toArray, List.set_cons_zero, List.set_cons_succ])
      refine SeqO.nil0 fun w3 hS3 => ?_
      refine Ph.last ?_
      simp only [List.drop_succ_cons, List.drop_zero, List.take_succ_cons, List.take_zero, Nat.reduceSub, Nat.sub_zero]
      refine wpList_nil ?_
      clear c2 cl cr hgg chp chq hgp hgl
      have H3 := Lib.hid (H2.out.step hS3)
      have B4 := Lib.hid (B3.out.step hS3)
      have M3 := M2.trans (Mod.of_below (p := T.p) (g := T.g) hS3)
      clear H2 B3 hS3 M2
      have dv : IntKind.i64.wrap ((m2 q).h - (m2 p).h) = (m2 q).h - (m2 p).h := by rw [IntKind.wrap_i64]; omega
      rw [dv]
      clear dv
      have cl : w3.cell? ⟨g1, 14, none⟩ = some (.int .i64 (p : Int)) := by rw [B4.out.cell, ← hp]; rfl
      have cr : w3.cell? ⟨g1, 15, none⟩ = some (.int .i64 (q : Int)) := by rw [B4.out.cell, ← hq]; rfl
      have c2 : w3.cell? ⟨T.p, 2, none⟩ = some (.slice (some ⟨T.g, 0, none⟩) T.N T.cap) := H3.out.nodes
      have cu : w3.cell? ⟨T.g, i * 17 + 13, none⟩ = some (.int .i64 (m2 i).u) := H3.out.cell hiN rfl
      go_wp2_with fail
      · rename_i hd
        clear cl cr c2 cu
        have LO := R5.out (by rw [hq, hp]; omega)
        rw [hq] at LO
        refine (liftK (T := { T with m := m2, top := t }) (k := q) w3 H3.out hiN hqN RU.out LO HS.out).mono ?_
        rintro e w4 ⟨rfl, h4, m4⟩
        have M4 := M3.trans m4
        have me := ME.out
        rw [if_pos (by omega)] at me
        have HM2 := HM.out
        rw [me] at HM2
        clear HM ME me R5 R6 LO RU H3 B4 M3 m4
        revert h4 HM2
        generalize (TrP.liftM m2 t (i : Int) (q : Int)).1 = mm
        generalize (TrP.liftM m2 t (i : Int) (q : Int)).2 = tt
        intro h4 HM2
        have H4 := Lib.hid h4
        have HM3 := Lib.hid HM2
        have c2 : w4.cell? ⟨T.p, 2, none⟩ = some (.slice (some ⟨T.g, 0, none⟩) T.N T.cap) := h4.nodes
        have cu : w4.cell? ⟨T.g, q * 17 + 13, none⟩ = some (.int .i64 (mm q).u) := h4.cell hqN rfl
        clear h4 HM2
        go_wp2_with fail
        exact FIN.out w4 _ _ _ ⟨H4.out, HM3.out, M4⟩
      · rename_i hd
        clear cl cr c2 cu
        have LO := R6.out (by rw [hq, hp]; omega)
        rw [hp] at LO
        refine (liftK (T := { T with m := m2, top := t }) (k := p) w3 H3.out hiN hpN RU.out LO HS.out).mono ?_
        rintro e w4 ⟨rfl, h4, m4⟩
        have M4 := M3.trans m4
        have me := ME.out
        rw [if_neg (by omega), if_pos (by omega)] at me
        have HM2 := HM.out
        rw [me] at HM2
        clear HM ME me R5 R6 LO RU H3 B4 M3 m4
        revert h4 HM2
        generalize (TrP.liftM m2 t (i : Int) (p : Int)).1 = mm
        generalize (TrP.liftM m2 t (i : Int) (p : Int)).2 = tt
        intro h4 HM2
        have H4 := Lib.hid h4
        have HM3 := Lib.hid HM2
        have c2 : w4.cell? ⟨T.p, 2, none⟩ = some (.slice (some ⟨T.g, 0, none⟩) T.N T.cap) := h4.nodes
        have cu : w4.cell? ⟨T.g, p * 17 + 13, none⟩ = some (.int .i64 (mm p).u) := h4.cell hpN rfl
        clear h4 HM2
        go_wp2_with fail
        exact FIN.out w4 _ _ _ ⟨H4.out, HM3.out, M4⟩
      · rename_i hd1 hd2
        have me := ME.out
        rw [if_neg (by omega), if_neg (by omega)] at me
        have HM2 := HM.out
        rw [me] at HM2
        exact FIN.out w3 _ _ _ ⟨H3.out, HM2, M3⟩
end TrG
end Go.Proofs.Ytbcjnckejkjfeaa
