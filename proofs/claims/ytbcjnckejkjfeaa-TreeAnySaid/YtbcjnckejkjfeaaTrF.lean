/- A node lifted above the one over it: the walk. Condition: the nodes are there, the heights not great. -/
import Derived.Test.YtbcjnckejkjfeaaTrA
namespace Go.Proofs.Ytbcjnckejkjfeaa
set_option linter.unusedVariables false
set_option linter.unusedSimpArgs false
open Go.RowKit Go.NP
namespace TrF
open TrP TrW TrC TrA
/-- A node's two are there, and their heights not great. -/
def Kids (m : M) (N : Nat) (i : Int) : Prop := ∃ p q : Nat, (m i).l = p ∧ p < N ∧ (m i).r = q ∧ q < N ∧ 0 ≤ (m p).h ∧ (m p).h ≤ 100000 ∧ 0 ≤ (m q).h ∧ (m q).h ≤ 100000
theorem againK {T : Tn} {i : Nat} (w : World) (h : TN w T) (hi : i < T.N) (hk : Kids T.m T.N i) :
    Calls Try.prog 70 #[.pointer (some ⟨T.p, 0, none⟩), .int .i64 (i : Int)] w fun e w' => e = .returned (.tuple #[]) ∧ TN w' { T with m := again T.m i } ∧ Mod w w' T.p T.g := by
  obtain ⟨p, q, h1, h2, h3, h4, h5, h6, h7, h8⟩ := hk
  exact againC w h hi h1 h2 h3 h4 ⟨h5, h6, h7, h8⟩
theorem wp_nf {o : Oper} {a : Act} {w : World} {K : Act → World → Prop} {Q : Exit → Act → World → Prop} {x y : Operand} {T : Tn} {k j : Nat} {n : Int} {z : Nd} (ho : o.op = .store 3 x y) (hx : a.eval x = .pointer (some ⟨T.g, k * 17 + j, none⟩)) (hy : a.eval y = .int .i64 n) (hT : TN w T) (hk : k < T.N) (hj : j < 17) (hz : ndv z = (ndv (T.m k)).set j (.int .i64 n))
    (h : ∀ w', TN w' { T with m := st T.m k z } → Mod w w' T.p T.g → K (a.put o.dst undef) w') : o.wp Try.prog a w K Q := by
  have hc : (w.cell? ⟨T.g, k * 17 + j, none⟩).isSome = true := by
    obtain ⟨v, hv⟩ : ∃ v, (ndv (T.m k))[j]? = some v := ⟨_, List.getElem?_eq_getElem (by rw [ndv_len]; exact hj)⟩
    rw [hT.cell hk hv]; rfl
  unfold Oper.wp execOp
  simp only [ho, hx, hy, Instr.storeAt, Instr.sureAddr, Sem.run_bind, Sem.run_pure, Result.andThen_ok, run_sc (v := .int .i64 n) rfl rfl szI hc (hT.free _)]
  exact h _ (hT.put hk hj hz) ((Mod.refl _ _ _).cell (.inr rfl) _)
set_option maxRecDepth 100000 in
set_option maxHeartbeats 4000000 in
theorem liftC {T : Tn} {a k lo0 hi0 : Nat} {m4 : M} {t2 : Int} (w : World) (h : TN w T) (ha : a < T.N) (hk : k < T.N) (hlo : (T.m k).l = lo0) (hlo2 : lo0 < T.N) (hhi : (T.m k).r = hi0) (hhi2 : hi0 < T.N) (hu : (T.m a).u = -1 ∨ 0 ≤ (T.m a).u ∧ (T.m a).u < T.N)
    (h4 : lift4 (change (change T.m T.top (T.m a).u a k).1 (change T.m T.top (T.m a).u a k).2 a k (lowOf T.m k)).1 a k (highOf T.m k) = m4) (ht : (change (change T.m T.top (T.m a).u a k).1 (change T.m T.top (T.m a).u a k).2 a k (lowOf T.m k)).2 = t2)
    (hA : Kids m4 T.N a) (hB : Kids (again m4 a) T.N k) :
    Calls Try.prog 71 #[.pointer (some ⟨T.p, 0, none⟩), .int .i64 (a : Int), .int .i64 (k : Int)] w fun e w' => e = .returned (.int .i64 (k : Int)) ∧ TN w' { T with m := again (again m4 a) k, top := t2 } ∧ Mod w w' T.p T.g := by
  have HT := Lib.hid h
  have c2 := h.nodes
  have k0 : 0 ≤ (k : Int) ∧ (k : Int) < T.N := by omega
  have l0 : 0 ≤ (lo0 : Int) ∧ (lo0 : Int) < T.N := by omega
  have r0 : 0 ≤ (hi0 : Int) ∧ (hi0 : Int) < T.N := by omega
  have a0 : 0 ≤ (a : Int) ∧ (a : Int) < T.N := by omega
  have cl := h.cell hk (j := 14) rfl
  have cr := h.cell hk (j := 15) rfl
  rw [hlo] at cl; rw [hhi] at cr
  have chl := h.cell hlo2 (j := 16) rfl
  have chh := h.cell hhi2 (j := 16) rfl
  have cu := h.cell ha (j := 13) rfl
  obtain ⟨hgp, hgl⟩ := TN.lt h
  have H4 := Lib.hid h4; have H2 := Lib.hid ht; have HA := Lib.hid hA; have HB := Lib.hid hB; have HU := Lib.hid hu; have HLO := Lib.hid hlo; have HHI := Lib.hid hhi
  clear h h4 ht hA hB hu hlo hhi
  go_enter Try.func71, Try.ntmps71
  go_wp2_with fail
  refine wp_region_ph [(18, .free [])] (by kernel_rfl) (by kernel_rfl) ?_
  refine Ph.belowd ?_
  simp only [List.drop_succ_cons, List.drop_zero, List.take_succ_cons, List.take_zero, Nat.reduceSub, Nat.sub_zero]
  iterate 18 (refine SeqO.val (v := ?_) (by rfl) (by rfl) (fun w1 hS => ?_) ?_; rotate_left; (· obtain ⟨hc, hcf⟩ := bcell hS; go_simp; try with_reducible rfl); simp only [Act.put, List.setIfInBounds_toArray, List.set_cons_zero, List.set_cons_succ])
  refine SeqO.nil0 fun w1 hS1 => ?_
  refine Ph.last ?_
  simp only [List.drop_succ_cons, List.drop_zero, List.take_succ_cons, List.take_zero, Nat.reduceSub, Nat.sub_zero]
  refine wpList_nil ?_
  have HT1 := Lib.hid (HT.out.step hS1)
  have M1 := Mod.of_below (p := T.p) (g := T.g) hS1
  have hgp1 := (TN.lt HT1.out).1
  have hgl1 := (TN.lt HT1.out).2
  clear c2 cl cr chl chh cu hgp hgl HT hS1
  have c2 := HT1.out.nodes
  have chl := HT1.out.cell hlo2 (j := 16) rfl
  have chh := HT1.out.cell hhi2 (j := 16) rfl
  go_wp2_with fail
  refine wp_region_ph [(17, .free [])] (by kernel_rfl) (by kernel_rfl) ?_
  refine Ph.belowd ?_
  simp only [List.drop_succ_cons, List.drop_zero, List.take_succ_cons, List.take_zero, Nat.reduceSub, Nat.sub_zero]
  iterate 17 (refine SeqO.val (v := ?_) (by rfl) (by rfl) (fun w1 hS => ?_) ?_; rotate_left; (· obtain ⟨hc, hcf⟩ := bcell hS; go_simp; try with_reducible rfl); simp only [Act.put, List.setIfInBounds_toArray, List.set_cons_zero, List.set_cons_succ])
  refine SeqO.nil0 fun w2 hS2 => ?_
  refine Ph.last ?_
  simp only [List.drop_succ_cons, List.drop_zero, List.take_succ_cons, List.take_zero, Nat.reduceSub, Nat.sub_zero]
  refine wpList_nil ?_
  have HT2 := Lib.hid (HT1.out.step hS2)
  have M2 := M1.trans (Mod.of_below (p := T.p) (g := T.g) hS2)
  clear c2 chl chh hgp1 hgl1 HT1 hS2 M1
  have c2 := HT2.out.nodes
  have cu := HT2.out.cell ha (j := 13) rfl
  iterate 3 go_step
  · rename_i hgt
    have LO := Lib.hid (show lowOf T.m k = hi0 from by unfold lowOf; rw [HLO.out, HHI.out, if_pos hgt])
    have HI := Lib.hid (show highOf T.m k = lo0 from by unfold highOf; rw [HLO.out, HHI.out, if_pos hgt])
    clear hgt
    rw [LO.out, HI.out] at H4
    rw [LO.out] at H2
    go_wp2_with fail
    refine (changeC w2 HT2.out HU.out ⟨k0.1, k0.2⟩).mono ?_
    rintro e w3 ⟨rfl, h3, m3⟩
    have M3 := M2.trans m3
    clear c2 cu HT2 M2 m3
    go_wp2_with fail
    refine (changeC (was := (k : Int)) w3 h3 (.inr ⟨a0.1, a0.2⟩) (now := (hi0 : Int)) ⟨by omega, by show (hi0 : Int) < (T.N : Int); omega⟩).mono ?_
    rintro e w5 ⟨rfl, h5, m5⟩
    have M5 := M3.trans m5
    clear h3 M3 m5
    obtain ⟨m2, hm2⟩ : ∃ m2, (change (change T.m T.top (T.m a).u a k).1 (change T.m T.top (T.m a).u a k).2 a k (hi0 : Int)).1 = m2 := ⟨_, rfl⟩
    rw [hm2] at H4
    replace h5 : TN w5 { T with m := m2, top := t2 } := by rw [← hm2, ← H2.out]; exact h5
    clear hm2 H2 LO HI HU HLO HHI
    have c2 : w5.cell? ⟨T.p, 2, none⟩ = some (.slice (some ⟨T.g, 0, none⟩) T.N T.cap) := h5.nodes
    go_wp2_with fail
    refine wp_region_ph [(15, .free [])] (by kernel_rfl) (by kernel_rfl) ?_
    clear c2
    have NE := Lib.hid (fun (u : World) (hS : Below w5.heap.size w5 u ∨ (TN u { T with m := st m2 k ((m2 k).setL a), top := t2 } ∧ Mod w5 u T.p T.g)) => (show u.cell? ⟨T.p, 2, none⟩ = some (.slice (some ⟨T.g, 0, none⟩) T.N T.cap) from by (rcases hS with h | h; exact (h5.step h).nodes; exact h.1.nodes)))
    refine Ph.one 14 (fun u => Below w5.heap.size w5 u) (fun u => TN u { T with m := st m2 k ((m2 k).setL a), top := t2 } ∧ Mod w5 u T.p T.g) (by rfl) (Below.refl _ _).drew ?_
    simp only [List.drop_succ_cons, List.drop_zero, List.take_succ_cons, List.take_zero, Nat.reduceSub, Nat.sub_zero]
    iterate 3 (refine SeqO.val1 (v := ?_) (by rfl) (by rfl) (fun w1 hS => ?_) ?_; rotate_left; (· skip; go_simp; try with_reducible rfl); simp only [Act.put, List.setIfInBounds_toArray, List.set_cons_zero, List.set_cons_succ])
    iterate 1 (refine SeqO.val1 (v := ?_) (by rfl) (by rfl) (fun w1 hS => ?_) ?_; rotate_left; (· have c2 := NE.out w1 hS; go_simp; try with_reducible rfl); simp only [Act.put, List.setIfInBounds_toArray, List.set_cons_zero, List.set_cons_succ])
    iterate 4 (refine SeqO.val1 (v := ?_) (by rfl) (by rfl) (fun w1 hS => ?_) ?_; rotate_left; (· skip; go_simp; try with_reducible rfl); simp only [Act.put, List.setIfInBounds_toArray, List.set_cons_zero, List.set_cons_succ])
    iterate 1 (refine SeqO.val1 (v := ?_) (by rfl) (by rfl) (fun w1 hS => ?_) ?_; rotate_left; (· have c2 := NE.out w1 hS; go_simp; try with_reducible rfl); simp only [Act.put, List.setIfInBounds_toArray, List.set_cons_zero, List.set_cons_succ])
    iterate 5 (refine SeqO.val1 (v := ?_) (by rfl) (by rfl) (fun w1 hS => ?_) ?_; rotate_left; (· skip; go_simp; try with_reducible rfl); simp only [Act.put, List.setIfInBounds_toArray, List.set_cons_zero, List.set_cons_succ])
    refine SeqO.one (v := undef) (by rfl) (by rfl) (fun u hR K hK => ?_) ?_
    · refine wp_nf (T := { T with m := m2, top := t2 }) (k := k) (j := 14) (x := .tmp 74) (y := .tmp 71) (n := (a : Int)) (z := (m2 k).setL a) (by rfl) (by rfl) (by rfl) (h5.step hR) hk (by decide) (by rfl) ?_
      exact fun w' h' m' => hK w' ⟨h', (Mod.of_below hR).trans m'⟩
    simp only [Act.put, List.setIfInBounds_toArray, List.set_cons_zero, List.set_cons_succ]
    refine SeqO.nil1 (by decide) fun w6 hR2 => ?_
    refine Ph.last ?_
    simp only [List.drop_succ_cons, List.drop_zero, List.take_succ_cons, List.take_zero, Nat.reduceSub, Nat.sub_zero]
    obtain ⟨h6, m6⟩ := hR2
    have M6 := M5.trans m6
    clear NE M5 m6 h5
    iterate 2 (with_reducible refine wpL_val (v := ?_) ?_ ?_ ?_; rotate_left; (· kernel_rfl); (· go_simp; try with_reducible rfl); conv => arg 5; simp only [Act.put, List.setIfInBounds_toArray, List.set_cons_zero, List.set_cons_succ])
    refine wpL_nf (T := { T with m := st m2 k ((m2 k).setL a), top := t2 }) (k := k) (j := 15) (x := .tmp 76) (y := .tmp 72) (n := (lo0 : Int)) (z := ((m2 k).setL a).setR lo0) (by rfl) (by rfl) (by rfl) (by rfl) h6 hk (by decide) (by simp only [st_at]; rfl) ?_
    intro w7 h7 m7
    have M7 := M6.trans m7
    simp only [st_st] at h7
    clear h6 M6 m7
    refine wpList_nil ?_
    have c2 : w7.cell? ⟨T.p, 2, none⟩ = some (.slice (some ⟨T.g, 0, none⟩) T.N T.cap) := h7.nodes
    go_wp2_with (refine wpL_nf (T := { T with m := st m2 k (((m2 k).setL a).setR lo0), top := t2 }) (k := a) (j := 13) (x := .tmp 84) (y := .tmp 82) (n := (k : Int)) (z := (st m2 k (((m2 k).setL a).setR lo0) a).setU k) (by rfl) (by rfl) (by rfl) (by rfl) h7 ha (by decide) (by rfl) ?_; intro w8 h8 m8)
    replace h8 : TN w8 { T with m := m4, top := t2 } := by rw [← H4.out]; exact h8
    have M8 := M7.trans m8
    clear c2 h7 M7 m8 H4
    refine (againK (T := { T with m := m4, top := t2 }) w8 h8 ha HA.out).mono ?_
    rintro e w9 ⟨rfl, h9, m9⟩
    have M9 := M8.trans m9
    clear h8 M8 m9
    go_wp2_with fail
    refine (againK (T := { T with m := again m4 a, top := t2 }) w9 h9 hk HB.out).mono ?_
    rintro e w10 ⟨rfl, h10, m10⟩
    have M10 := M9.trans m10
    clear h9 M9 m10
    go_wp2_with fail
    exact bodyPost_ret (v := .int .i64 (k : Int)) (by simp [results, Try.results71, go_sem, *]) rfl ⟨rfl, h10, M10⟩
  · rename_i hgt
    have LO := Lib.hid (show lowOf T.m k = lo0 from by unfold lowOf; rw [HLO.out, HHI.out, if_neg (by omega)])
    have HI := Lib.hid (show highOf T.m k = hi0 from by unfold highOf; rw [HLO.out, HHI.out, if_neg (by omega)])
    clear hgt
    rw [LO.out, HI.out] at H4
    rw [LO.out] at H2
    go_wp2_with fail
    refine (changeC w2 HT2.out HU.out ⟨k0.1, k0.2⟩).mono ?_
    rintro e w3 ⟨rfl, h3, m3⟩
    have M3 := M2.trans m3
    clear c2 cu HT2 M2 m3
    go_wp2_with fail
    refine (changeC (was := (k : Int)) w3 h3 (.inr ⟨a0.1, a0.2⟩) (now := (lo0 : Int)) ⟨by omega, by show (lo0 : Int) < (T.N : Int); omega⟩).mono ?_
    rintro e w5 ⟨rfl, h5, m5⟩
    have M5 := M3.trans m5
    clear h3 M3 m5
    obtain ⟨m2, hm2⟩ : ∃ m2, (change (change T.m T.top (T.m a).u a k).1 (change T.m T.top (T.m a).u a k).2 a k (lo0 : Int)).1 = m2 := ⟨_, rfl⟩
    rw [hm2] at H4
    replace h5 : TN w5 { T with m := m2, top := t2 } := by rw [← hm2, ← H2.out]; exact h5
    clear hm2 H2 LO HI HU HLO HHI
    have c2 : w5.cell? ⟨T.p, 2, none⟩ = some (.slice (some ⟨T.g, 0, none⟩) T.N T.cap) := h5.nodes
    go_wp2_with fail
    refine wp_region_ph [(15, .free [])] (by kernel_rfl) (by kernel_rfl) ?_
    clear c2
    have NE := Lib.hid (fun (u : World) (hS : Below w5.heap.size w5 u ∨ (TN u { T with m := st m2 k ((m2 k).setL a), top := t2 } ∧ Mod w5 u T.p T.g)) => (show u.cell? ⟨T.p, 2, none⟩ = some (.slice (some ⟨T.g, 0, none⟩) T.N T.cap) from by (rcases hS with h | h; exact (h5.step h).nodes; exact h.1.nodes)))
    refine Ph.one 14 (fun u => Below w5.heap.size w5 u) (fun u => TN u { T with m := st m2 k ((m2 k).setL a), top := t2 } ∧ Mod w5 u T.p T.g) (by rfl) (Below.refl _ _).drew ?_
    simp only [List.drop_succ_cons, List.drop_zero, List.take_succ_cons, List.take_zero, Nat.reduceSub, Nat.sub_zero]
    iterate 3 (refine SeqO.val1 (v := ?_) (by rfl) (by rfl) (fun w1 hS => ?_) ?_; rotate_left; (· skip; go_simp; try with_reducible rfl); simp only [Act.put, List.setIfInBounds_toArray, List.set_cons_zero, List.set_cons_succ])
    iterate 1 (refine SeqO.val1 (v := ?_) (by rfl) (by rfl) (fun w1 hS => ?_) ?_; rotate_left; (· have c2 := NE.out w1 hS; go_simp; try with_reducible rfl); simp only [Act.put, List.setIfInBounds_toArray, List.set_cons_zero, List.set_cons_succ])
    iterate 4 (refine SeqO.val1 (v := ?_) (by rfl) (by rfl) (fun w1 hS => ?_) ?_; rotate_left; (· skip; go_simp; try with_reducible rfl); simp only [Act.put, List.setIfInBounds_toArray, List.set_cons_zero, List.set_cons_succ])
    iterate 1 (refine SeqO.val1 (v := ?_) (by rfl) (by rfl) (fun w1 hS => ?_) ?_; rotate_left; (· have c2 := NE.out w1 hS; go_simp; try with_reducible rfl); simp only [Act.put, List.setIfInBounds_toArray, List.set_cons_zero, List.set_cons_succ])
    iterate 5 (refine SeqO.val1 (v := ?_) (by rfl) (by rfl) (fun w1 hS => ?_) ?_; rotate_left; (· skip; go_simp; try with_reducible rfl); simp only [Act.put, List.setIfInBounds_toArray, List.set_cons_zero, List.set_cons_succ])
    refine SeqO.one (v := undef) (by rfl) (by rfl) (fun u hR K hK => ?_) ?_
    · refine wp_nf (T := { T with m := m2, top := t2 }) (k := k) (j := 14) (x := .tmp 74) (y := .tmp 71) (n := (a : Int)) (z := (m2 k).setL a) (by rfl) (by rfl) (by rfl) (h5.step hR) hk (by decide) (by rfl) ?_
      exact fun w' h' m' => hK w' ⟨h', (Mod.of_below hR).trans m'⟩
    simp only [Act.put, List.setIfInBounds_toArray, List.set_cons_zero, List.set_cons_succ]
    refine SeqO.nil1 (by decide) fun w6 hR2 => ?_
    refine Ph.last ?_
    simp only [List.drop_succ_cons, List.drop_zero, List.take_succ_cons, List.take_zero, Nat.reduceSub, Nat.sub_zero]
    obtain ⟨h6, m6⟩ := hR2
    have M6 := M5.trans m6
    clear NE M5 m6 h5
    iterate 2 (with_reducible refine wpL_val (v := ?_) ?_ ?_ ?_; rotate_left; (· kernel_rfl); (· go_simp; try with_reducible rfl); conv => arg 5; simp only [Act.put, List.setIfInBounds_toArray, List.set_cons_zero, List.set_cons_succ])
    refine wpL_nf (T := { T with m := st m2 k ((m2 k).setL a), top := t2 }) (k := k) (j := 15) (x := .tmp 76) (y := .tmp 72) (n := (hi0 : Int)) (z := ((m2 k).setL a).setR hi0) (by rfl) (by rfl) (by rfl) (by rfl) h6 hk (by decide) (by simp only [st_at]; rfl) ?_
    intro w7 h7 m7
    have M7 := M6.trans m7
    simp only [st_st] at h7
    clear h6 M6 m7
    refine wpList_nil ?_
    have c2 : w7.cell? ⟨T.p, 2, none⟩ = some (.slice (some ⟨T.g, 0, none⟩) T.N T.cap) := h7.nodes
    go_wp2_with (refine wpL_nf (T := { T with m := st m2 k (((m2 k).setL a).setR hi0), top := t2 }) (k := a) (j := 13) (x := .tmp 84) (y := .tmp 82) (n := (k : Int)) (z := (st m2 k (((m2 k).setL a).setR hi0) a).setU k) (by rfl) (by rfl) (by rfl) (by rfl) h7 ha (by decide) (by rfl) ?_; intro w8 h8 m8)
    replace h8 : TN w8 { T with m := m4, top := t2 } := by rw [← H4.out]; exact h8
    have M8 := M7.trans m8
    clear c2 h7 M7 m8 H4
    refine (againK (T := { T with m := m4, top := t2 }) w8 h8 ha HA.out).mono ?_
    rintro e w9 ⟨rfl, h9, m9⟩
    have M9 := M8.trans m9
    clear h8 M8 m9
    go_wp2_with fail
    refine (againK (T := { T with m := again m4 a, top := t2 }) w9 h9 hk HB.out).mono ?_
    rintro e w10 ⟨rfl, h10, m10⟩
    have M10 := M9.trans m10
    clear h9 M9 m10
    go_wp2_with fail
    exact bodyPost_ret (v := .int .i64 (k : Int)) (by simp [results, Try.results71, go_sem, *]) rfl ⟨rfl, h10, M10⟩
end TrF
end Go.Proofs.Ytbcjnckejkjfeaa
