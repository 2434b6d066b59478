/- awake: some answers that the document fixes. No condition. -/
import Derived.Test.YtocelepohkbooaaQIc
import Derived.Test.YtocelepohkbooaaQDg
namespace Go.Proofs.Ytocelepohkbooaa
set_option linter.unusedVariables false
set_option linter.unusedSimpArgs false
open Go.RowKit Go.NP
namespace QAw
open QVl QIp QCk QIs QIc QSd QDf QDg
def a1 : List Pr := [⟨2, 3⟩, ⟨1, 9⟩, ⟨2, 3⟩]
def a2 : List Pr := [⟨1, 2⟩, ⟨1, 3⟩]
def a3 : List Pr := [⟨1, 3⟩, ⟨2, 3⟩]
def a4 : List Pr := [⟨1, 2⟩, ⟨2, 3⟩, ⟨3, 4⟩, ⟨7, 8⟩]
theorem e1 : sortA a1 = [⟨1, 9⟩, ⟨2, 3⟩] := by decide
theorem f1 : fineS a1 = 0 := by decide
theorem e2 : diffE a2 a3 = 0 := by decide
theorem e3 : onl a3 a2 false = [⟨2, 3⟩] := by decide
theorem e4 : onl a2 a3 true = [⟨1, 3⟩] := by decide
theorem e5 : onl a2 a3 false = [⟨1, 2⟩] := by decide
theorem f4 : fineS a4 = 0 := by decide
theorem e6 : islA [3] a4 = [[1, 2], [4], [7, 8]] := by decide +kernel
theorem new_sd (w : World) (l : List Pr) (h : l.length ≤ 1000) : SlD (w.alloc (.cells (prvs l).toArray 39)) (some ⟨w.heap.size, 0, none⟩) l.length l.length l := by
  obtain ⟨A, c, e, hs⟩ := (Go.Proofs.Ytocelepohkbooaa.own_new w l h).sl
  cases e
  exact ⟨hs, fun h => (by cases h), Nat.le_refl _⟩
/-- The first pair of a list of one's own. -/
theorem own_head {w : World} {base : Nat} {v : Value} {p : Pr} {l : List Pr} (h : OwnS w base v (p :: l)) : ∃ g c, v = .slice (some ⟨g, 0, none⟩) (l.length + 1) c ∧ w.cell? ⟨g, 0, none⟩ = some (.int .i64 p.a) ∧ w.cell? ⟨g, 1, none⟩ = some (.int .i64 p.b) := by
  obtain ⟨A, c, e, hs⟩ := h.sl
  obtain ⟨b, off, rfl, hb, hat⟩ := hs.2 (by simp)
  rcases h.2 with ⟨e2, _⟩ | ⟨g, cap, cur, e2, _⟩
  · rw [e] at e2; simp at e2
  · rw [e] at e2
    simp only [Value.slice.injEq, Option.some.injEq, Addr.mk.injEq] at e2
    obtain ⟨⟨rfl, rfl, _⟩, _, rfl⟩ := e2
    exact ⟨b, _, e, hat 0 p rfl 0 _ rfl, hat 0 p rfl 1 _ rfl⟩
theorem own_headV {w : World} {base : Nat} {T : TypeId} {v : Value} {l : List Value} (h : OwnV w base T v l) (h0 : 0 < l.length) : ∃ g c, v = .slice (some ⟨g, 0, none⟩) l.length c ∧ ∀ k u, l[k]? = some u → w.cell? ⟨g, k, none⟩ = some u := by
  obtain ⟨A, c, e, hs, hf, _⟩ := h.sl
  rcases hf with ⟨_, _, rfl⟩ | ⟨g, rfl⟩
  · simp at h0
  · obtain ⟨b, off, e2, _, hc⟩ := hs.2 h0
    cases e2
    exact ⟨_, c, e, fun k u hk => by have := hc k u hk; rwa [Nat.zero_add] at this⟩
set_option maxRecDepth 100000 in
set_option maxHeartbeats 4000000 in
theorem awakeC (w : World) : RetB Try.prog 8 #[] w (.bool true) := by
  go_enter Try.func8, Try.ntmps8
  go_wp2_with fail
  have S1 := (Below.refl w.heap.size w).alloc (Nat.le_refl _) (.cells (prvs a1).toArray 39)
  refine (sortedC (n := 3) 3 (w.alloc (.cells (prvs a1).toArray 39)) (new_sd w a1 (by decide)).1).mono ?_
  rintro e w1 ⟨v1, rfl, hv1, hS1⟩
  rw [e1] at hv1
  rw [f1]
  have hW1 := S1.trans (hS1.mono S1.size)
  have o1 := hv1.mono S1.size
  clear S1 hS1 hv1
  go_wp2_with fail
  have S2 := (Below.refl w1.heap.size w1).alloc (Nat.le_refl _) (.cells (prvs a2).toArray 39)
  have z2 : (w1.alloc (.cells (prvs a2).toArray 39)).heap.size = w1.heap.size + 1 := by simp
  have h2 := new_sd w1 a2 (by decide)
  have h3 := new_sd (w1.alloc (.cells (prvs a2).toArray 39)) a3 (by decide)
  rw [z2] at h3
  have S3 := (Below.refl _ (w1.alloc (.cells (prvs a2).toArray 39))).alloc (Nat.le_refl _) (.cells (prvs a3).toArray 39)
  have h2' : SlD ((w1.alloc (.cells (prvs a2).toArray 39)).alloc (.cells (prvs a3).toArray 39)) (some ⟨w1.heap.size, 0, none⟩) 2 2 a2 := ⟨h2.1.step S3, h2.2⟩
  refine (diffC 2 2 ((w1.alloc (.cells (prvs a2).toArray 39)).alloc (.cells (prvs a3).toArray 39)) h2' h3).mono ?_
  rintro e w2 ⟨u, v, t, rfl, hu, hv, ht, hS4⟩
  have B2 := S2.trans (S3.mono S2.size)
  have B4 := B2.trans (hS4.mono B2.size)
  have hW2 := hW1.trans (B4.mono hW1.size)
  have o1 := o1.step B4
  rw [e2, if_pos rfl, e3] at hu
  rw [e2, if_pos rfl, e4] at hv
  rw [e2, if_pos rfl, e5] at ht
  rw [e2]
  clear S2 z2 h2 h3 S3 h2' hS4 hW1 B2 B4
  go_wp2_with fail
  have S5 := (Below.refl w2.heap.size w2).alloc (Nat.le_refl _) (.cells (prvs a4).toArray 39)
  have z5 : (w2.alloc (.cells (prvs a4).toArray 39)).heap.size = w2.heap.size + 1 := by simp
  have h5 := new_sd w2 a4 (by decide)
  have S6 := (Below.refl _ (w2.alloc (.cells (prvs a4).toArray 39))).alloc (Nat.le_refl _) (.cells [.int .i64 3].toArray 3)
  have h5' : SlS ((w2.alloc (.cells (prvs a4).toArray 39)).alloc (.cells [.int .i64 3].toArray 3)) (some ⟨w2.heap.size, 0, none⟩) 4 a4 := h5.1.step S6
  have h6 : SlV ((w2.alloc (.cells (prvs a4).toArray 39)).alloc (.cells [.int .i64 3].toArray 3)) (some ⟨w2.heap.size + 1, 0, none⟩) 1 ([3].map (.int .i64)) := by
    obtain ⟨A, c, e, hs, _⟩ := (QVl.own_new (w2.alloc (.cells (prvs a4).toArray 39)) 3 [.int .i64 3] (by decide)).sl
    rw [z5] at e
    cases e
    exact hs
  refine (islC 4 1 ((w2.alloc (.cells (prvs a4).toArray 39)).alloc (.cells [.int .i64 3].toArray 3)) h5' h6 (fun x hx => QVm.wfI_small (by simp at hx; omega) (by simp at hx; omega)) (by decide) (by decide)).mono ?_
  rintro e w3 ⟨y, rfl, hy, hS7⟩
  have B5 := S5.trans (S6.mono S5.size)
  have B7 := B5.trans (hS7.mono B5.size)
  have hW3 := hW2.trans (B7.mono hW2.size)
  have o1 := o1.step B7
  have hu := hu.step B7
  have hv := hv.step B7
  have ht := ht.step B7
  rw [f4]
  rw [e6] at hy
  clear S5 z5 h5 S6 h5' h6 hS7 hW2 B5 B7
  obtain ⟨g1, c1, rfl, ca, cb⟩ := own_head o1
  obtain ⟨g2, c2, rfl, cc, cd⟩ := own_head hu
  obtain ⟨g3, c3, rfl, ce, cf⟩ := own_head hv
  obtain ⟨g4, c4, rfl, cg, ch⟩ := own_head ht
  obtain ⟨vs, hvs, hl3, hel⟩ := hy
  obtain ⟨x0, x1, x2, rfl⟩ : ∃ a b c, vs = [a, b, c] := by
    match vs, hl3 with
    | [a, b, c], _ => exact ⟨a, b, c, rfl⟩
  obtain ⟨g5, c5, rfl, ci⟩ := own_headV hvs (by simp)
  obtain ⟨g6, c6, rfl, cj⟩ := own_headV (hel 0 x0 _ rfl rfl) (by simp)
  obtain ⟨g7, c7, rfl, ck⟩ := own_headV (hel 1 x1 _ rfl rfl) (by simp)
  have i0 := ci 0 _ rfl
  have i1 := ci 1 _ rfl
  have k0 := ck 0 _ rfl
  clear o1 hu hv ht hvs hel ci cj ck
  simp only [List.length_cons, List.length_nil, List.length_map, Nat.zero_add, Nat.reduceAdd] at *
  go_wp2_with fail
  go_ret
  exact ⟨rfl, hW3⟩
end QAw
end Go.Proofs.Ytocelepohkbooaa
