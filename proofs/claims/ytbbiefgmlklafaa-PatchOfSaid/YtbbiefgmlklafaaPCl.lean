/- Slices of spots; the three closures that a patch asks: the walks. Condition: what they hold is as told. -/
import Derived.Test.YtbbiefgmlklafaaGAr
import Derived.Test.YtbbiefgmlklafaaMemQ
namespace Go.Proofs.Ytbbiefgmlklafaa
set_option linter.unusedVariables false
set_option linter.unusedSimpArgs false
open Go.RowKit Go.NP
def spv (s : Spo) : List Value := [.int .i64 s.side, .int .i64 s.at_, .int .i64 s.p.x, .int .i64 s.p.y, .int .i64 s.p.z]
/-- A row of spots. -/
def SAt (w : World) (b off : Nat) (l : List Spo) : Prop := ∀ (k : Nat) s, l[k]? = some s → At' w b (off + k * 5) (spv s)
theorem SAt.step {w w' : World} {b off : Nat} {l : List Spo} (h : SAt w b off l) (hb : b < w.heap.size) (hS : Below w.heap.size w w') : SAt w' b off l := fun k s hk => (h k s hk).step hb hS
namespace PCl
theorem cf19 (args : Array Value) (w1 : World) : (callFunc 19 args).run Try.prog w1 = .ok (.enter 19 args) w1 := enters Try.func19 (by kernel_rfl) (by kernel_rfl) args w1
theorem cf21 (args : Array Value) (w1 : World) : (callFunc 21 args).run Try.prog w1 = .ok (.enter 21 args) w1 := enters Try.func21 (by kernel_rfl) (by kernel_rfl) args w1
theorem cf13 (args : Array Value) (w1 : World) : (callFunc 13 args).run Try.prog w1 = .ok (.enter 13 args) w1 := enters Try.func13 (by kernel_rfl) (by kernel_rfl) args w1
/-- What a patch's closures hold: the spots, and the places so far. -/
structure Held (w : World) (bl ba b off n cap : Nat) (l : List Spo) (a0 a1 a2 a3 : Nat) : Prop where
  hl : Box w bl [.slice (some ⟨b, off, none⟩) n cap] 22
  ha : Box w ba [.int .i64 a0, .int .i64 a1, .int .i64 a2, .int .i64 a3] 44
  hb : b < w.heap.size
  hs : SAt w b off l
  hn : l.length = n
  hi : n ≤ 1000000
theorem Held.step {w w' : World} {bl ba b off n cap : Nat} {l : List Spo} {a0 a1 a2 a3 : Nat} (h : Held w bl ba b off n cap l a0 a1 a2 a3) (hS : Below w.heap.size w w') : Held w' bl ba b off n cap l a0 a1 a2 a3 :=
  ⟨h.hl.step hS, h.ha.step hS, by have := h.hb; have := hS.size; omega, h.hs.step h.hb hS, h.hn, h.hi⟩
set_option maxRecDepth 100000 in
set_option maxHeartbeats 1000000 in
theorem p1C {w : World} {bl ba b off n cap : Nat} {l : List Spo} {a0 a1 a2 a3 : Nat} (h : Held w bl ba b off n cap l a0 a1 a2 a3) {s t : Spo} (hs : s.p.ok) (ht : t.p.ok) (hk : l[a0]? = some t) :
    RetB Try.prog 18 #[.agg #[.int .i64 s.side, .int .i64 s.at_, .int .i64 s.p.x, .int .i64 s.p.y, .int .i64 s.p.z], .pointer (some ⟨bl, 0, none⟩), .pointer (some ⟨ba, 0, none⟩)] w (.agg #[.int .u64 (w8 (GDot.far s.p t.p)).a, .int .u64 (w8 (GDot.far s.p t.p)).b, .int .u64 (w8 (GDot.far s.p t.p)).c, .int .u64 (w8 (GDot.far s.p t.p)).d, .int .u64 (w8 (GDot.far s.p t.p)).e, .int .u64 (w8 (GDot.far s.p t.p)).f, .int .u64 (w8 (GDot.far s.p t.p)).g, .int .u64 (w8 (GDot.far s.p t.p)).h]) := by
  have O1 := Lib.hid (fun w => GDot.farV hs ht w)
  have hlt : a0 < n := by
    rw [← h.hn]; rcases Nat.lt_or_ge a0 l.length with h' | h'
    · exact h'
    · rw [List.getElem?_eq_none h'] at hk; cases hk
  have H := Lib.hid h
  have HK := Lib.hid hk
  have hi := h.hi
  clear hs ht h hk
  unfold RetB
  go_enter Try.func18, Try.ntmps18
  go_wp2
  have hS5 : Box ((w.alloc (.cells [.int .i64 s.side, .int .i64 s.at_, .int .i64 s.p.x, .int .i64 s.p.y, .int .i64 s.p.z].toArray 32)).alloc (.cells [.int .u64 0, .int .u64 0, .int .u64 0, .int .u64 0, .int .u64 0, .int .u64 0, .int .u64 0, .int .u64 0].toArray 37)) w.heap.size [.int .i64 s.side, .int .i64 s.at_, .int .i64 s.p.x, .int .i64 s.p.y, .int .i64 s.p.z] 32 := (Box.new rfl).alloc _
  have hR : Box ((w.alloc (.cells [.int .i64 s.side, .int .i64 s.at_, .int .i64 s.p.x, .int .i64 s.p.y, .int .i64 s.p.z].toArray 32)).alloc (.cells [.int .u64 0, .int .u64 0, .int .u64 0, .int .u64 0, .int .u64 0, .int .u64 0, .int .u64 0, .int .u64 0].toArray 37)) (w.heap.size + 1) [.int .u64 0, .int .u64 0, .int .u64 0, .int .u64 0, .int .u64 0, .int .u64 0, .int .u64 0, .int .u64 0] 37 := Box.new (by simp)
  have hW : Below w.heap.size w ((w.alloc (.cells [.int .i64 s.side, .int .i64 s.at_, .int .i64 s.p.x, .int .i64 s.p.y, .int .i64 s.p.z].toArray 32)).alloc (.cells [.int .u64 0, .int .u64 0, .int .u64 0, .int .u64 0, .int .u64 0, .int .u64 0, .int .u64 0, .int .u64 0].toArray 37)) := ((Below.refl _ _).alloc (Nat.le_refl _) _).alloc (by simp) _
  have H := Lib.hid (H.out.step hW)
  revert hS5 hR hW H
  generalize ((w.alloc (.cells [.int .i64 s.side, .int .i64 s.at_, .int .i64 s.p.x, .int .i64 s.p.y, .int .i64 s.p.z].toArray 32)).alloc (.cells [.int .u64 0, .int .u64 0, .int .u64 0, .int .u64 0, .int .u64 0, .int .u64 0, .int .u64 0, .int .u64 0].toArray 37)) = w2
  intro hS5 hR hW H
  have z0 := H.out.hl.cell 0
  have z1 := H.out.ha.cell 0
  have m0 := H.out.hl.lt
  have m1 := H.out.ha.lt
  simp only [List.getElem?_cons_zero, List.getElem?_cons_succ] at z0 z1
  refine wp_region_ph [(7, .free [])] (by kernel_rfl) (by kernel_rfl) ?_
  refine Ph.belowd ?_
  simp only [List.drop_succ_cons, List.drop_zero, List.take_succ_cons, List.take_zero, Nat.reduceSub, Nat.sub_zero]
  refine SeqO.row (l := [.int .i64 s.side, .int .i64 s.at_, .int .i64 s.p.x, .int .i64 s.p.y, .int .i64 s.p.z]) (by rfl) (by rfl) hS5 Try.underlying32 (by rfl) (by kernel_rfl) (by rfl) (by rfl) ?_
  simp only [Act.put, List.setIfInBounds_toArray, List.set_cons_zero, List.set_cons_succ]
  iterate 4 (refine SeqO.val (v := ?_) (by rfl) (by rfl) (fun w1 hS => ?_) ?_; rotate_left; (· obtain ⟨hc, hcf⟩ := bcell hS; go_simp; try with_reducible rfl); simp only [Act.put, List.setIfInBounds_toArray, List.set_cons_zero, List.set_cons_succ])
  refine SeqO.at (l := [.int .i64 t.side, .int .i64 t.at_, .int .i64 t.p.x, .int .i64 t.p.y, .int .i64 t.p.z]) (by rfl) (by rfl) H.out.hb (H.out.hs a0 t HK.out) Try.underlying32 (by rfl) (by kernel_rfl) (by rfl) (by rfl) ?_
  simp only [Act.put, List.setIfInBounds_toArray, List.set_cons_zero, List.set_cons_succ]
  refine SeqO.callv (by rfl) (by rfl) (by rfl) cf19 (by simp [Act.eval]) (fun w1 hS => O1.out w1) ?_
  simp only [Act.put, List.setIfInBounds_toArray, List.set_cons_zero, List.set_cons_succ]
  refine SeqO.nil0 fun w3 hS3 => ?_
  refine Ph.last ?_
  simp only [List.drop_succ_cons, List.drop_zero, List.take_succ_cons, List.take_zero, Nat.reduceSub, Nat.sub_zero]
  have hR := hR.step hS3
  have hW := hW.trans (hS3.mono hW.size)
  refine wpL_store (cs := [.int .u64 (w8 (GDot.far s.p t.p)).a, .int .u64 (w8 (GDot.far s.p t.p)).b, .int .u64 (w8 (GDot.far s.p t.p)).c, .int .u64 (w8 (GDot.far s.p t.p)).d, .int .u64 (w8 (GDot.far s.p t.p)).e, .int .u64 (w8 (GDot.far s.p t.p)).f, .int .u64 (w8 (GDot.far s.p t.p)).g, .int .u64 (w8 (GDot.far s.p t.p)).h]) (by rfl) (by rfl) (by rfl) hR (by kernel_rfl) (by rfl) (by simp [Value.oneCell']) (by kernel_rfl) ?_
  conv => arg 5; simp only [Act.put, List.setIfInBounds_toArray, List.set_cons_zero, List.set_cons_succ]
  have hR := hR.row [.int .u64 (w8 (GDot.far s.p t.p)).a, .int .u64 (w8 (GDot.far s.p t.p)).b, .int .u64 (w8 (GDot.far s.p t.p)).c, .int .u64 (w8 (GDot.far s.p t.p)).d, .int .u64 (w8 (GDot.far s.p t.p)).e, .int .u64 (w8 (GDot.far s.p t.p)).f, .int .u64 (w8 (GDot.far s.p t.p)).g, .int .u64 (w8 (GDot.far s.p t.p)).h]
  have hW := below_setRow hW (g := w.heap.size + 1) (by omega) [.int .u64 (w8 (GDot.far s.p t.p)).a, .int .u64 (w8 (GDot.far s.p t.p)).b, .int .u64 (w8 (GDot.far s.p t.p)).c, .int .u64 (w8 (GDot.far s.p t.p)).d, .int .u64 (w8 (GDot.far s.p t.p)).e, .int .u64 (w8 (GDot.far s.p t.p)).f, .int .u64 (w8 (GDot.far s.p t.p)).g, .int .u64 (w8 (GDot.far s.p t.p)).h].toArray
  refine wpList_nil ?_
  go_wp2
  exact bodyPost_ret (v := .agg #[.int .u64 (w8 (GDot.far s.p t.p)).a, .int .u64 (w8 (GDot.far s.p t.p)).b, .int .u64 (w8 (GDot.far s.p t.p)).c, .int .u64 (w8 (GDot.far s.p t.p)).d, .int .u64 (w8 (GDot.far s.p t.p)).e, .int .u64 (w8 (GDot.far s.p t.p)).f, .int .u64 (w8 (GDot.far s.p t.p)).g, .int .u64 (w8 (GDot.far s.p t.p)).h]) (results_cell_row Try.results18 _ _ _ _ _ _ _ (by rfl) hR Try.underlying37 (by rfl) (by kernel_rfl)) rfl ⟨rfl, hW⟩
set_option maxRecDepth 100000 in
set_option maxHeartbeats 1000000 in
theorem p2C {w : World} {bl ba b off n cap : Nat} {l : List Spo} {a0 a1 a2 a3 : Nat} (h : Held w bl ba b off n cap l a0 a1 a2 a3) {s t u : Spo} (hs : s.p.ok) (ht : t.p.ok) (hu : u.p.ok) (hk : l[a0]? = some t) (hk1 : l[a1]? = some u) :
    RetB Try.prog 20 #[.agg #[.int .i64 s.side, .int .i64 s.at_, .int .i64 s.p.x, .int .i64 s.p.y, .int .i64 s.p.z], .pointer (some ⟨bl, 0, none⟩), .pointer (some ⟨ba, 0, none⟩)] w (.agg #[.int .u64 (w8 (GAr.area t.p u.p s.p)).a, .int .u64 (w8 (GAr.area t.p u.p s.p)).b, .int .u64 (w8 (GAr.area t.p u.p s.p)).c, .int .u64 (w8 (GAr.area t.p u.p s.p)).d, .int .u64 (w8 (GAr.area t.p u.p s.p)).e, .int .u64 (w8 (GAr.area t.p u.p s.p)).f, .int .u64 (w8 (GAr.area t.p u.p s.p)).g, .int .u64 (w8 (GAr.area t.p u.p s.p)).h]) := by
  have O1 := Lib.hid (fun w => GAr.areaV ht hu hs w)
  have hlt : a0 < n := by
    rw [← h.hn]; rcases Nat.lt_or_ge a0 l.length with h' | h'
    · exact h'
    · rw [List.getElem?_eq_none h'] at hk; cases hk
  have hlt1 : a1 < n := by
    rw [← h.hn]; rcases Nat.lt_or_ge a1 l.length with h' | h'
    · exact h'
    · rw [List.getElem?_eq_none h'] at hk1; cases hk1
  have H := Lib.hid h
  have HK := Lib.hid hk; have HK1 := Lib.hid hk1
  have hi := h.hi
  clear hs ht hu h hk hk1
  unfold RetB
  go_enter Try.func20, Try.ntmps20
  go_wp2
  have hS5 : Box ((w.alloc (.cells [.int .i64 s.side, .int .i64 s.at_, .int .i64 s.p.x, .int .i64 s.p.y, .int .i64 s.p.z].toArray 32)).alloc (.cells [.int .u64 0, .int .u64 0, .int .u64 0, .int .u64 0, .int .u64 0, .int .u64 0, .int .u64 0, .int .u64 0].toArray 37)) w.heap.size [.int .i64 s.side, .int .i64 s.at_, .int .i64 s.p.x, .int .i64 s.p.y, .int .i64 s.p.z] 32 := (Box.new rfl).alloc _
  have hR : Box ((w.alloc (.cells [.int .i64 s.side, .int .i64 s.at_, .int .i64 s.p.x, .int .i64 s.p.y, .int .i64 s.p.z].toArray 32)).alloc (.cells [.int .u64 0, .int .u64 0, .int .u64 0, .int .u64 0, .int .u64 0, .int .u64 0, .int .u64 0, .int .u64 0].toArray 37)) (w.heap.size + 1) [.int .u64 0, .int .u64 0, .int .u64 0, .int .u64 0, .int .u64 0, .int .u64 0, .int .u64 0, .int .u64 0] 37 := Box.new (by simp)
  have hW : Below w.heap.size w ((w.alloc (.cells [.int .i64 s.side, .int .i64 s.at_, .int .i64 s.p.x, .int .i64 s.p.y, .int .i64 s.p.z].toArray 32)).alloc (.cells [.int .u64 0, .int .u64 0, .int .u64 0, .int .u64 0, .int .u64 0, .int .u64 0, .int .u64 0, .int .u64 0].toArray 37)) := ((Below.refl _ _).alloc (Nat.le_refl _) _).alloc (by simp) _
  have H := Lib.hid (H.out.step hW)
  revert hS5 hR hW H
  generalize ((w.alloc (.cells [.int .i64 s.side, .int .i64 s.at_, .int .i64 s.p.x, .int .i64 s.p.y, .int .i64 s.p.z].toArray 32)).alloc (.cells [.int .u64 0, .int .u64 0, .int .u64 0, .int .u64 0, .int .u64 0, .int .u64 0, .int .u64 0, .int .u64 0].toArray 37)) = w2
  intro hS5 hR hW H
  have z0 := H.out.hl.cell 0
  have z1 := H.out.ha.cell 0
  have z2 := H.out.ha.cell 1
  have m0 := H.out.hl.lt
  have m1 := H.out.ha.lt
  simp only [List.getElem?_cons_zero, List.getElem?_cons_succ] at z0 z1 z2
  refine wp_region_ph [(12, .free [])] (by kernel_rfl) (by kernel_rfl) ?_
  refine Ph.belowd ?_
  simp only [List.drop_succ_cons, List.drop_zero, List.take_succ_cons, List.take_zero, Nat.reduceSub, Nat.sub_zero]
  iterate 4 (refine SeqO.val (v := ?_) (by rfl) (by rfl) (fun w1 hS => ?_) ?_; rotate_left; (· obtain ⟨hc, hcf⟩ := bcell hS; go_simp; try with_reducible rfl); simp only [Act.put, List.setIfInBounds_toArray, List.set_cons_zero, List.set_cons_succ])
  refine SeqO.at (l := [.int .i64 t.side, .int .i64 t.at_, .int .i64 t.p.x, .int .i64 t.p.y, .int .i64 t.p.z]) (by rfl) (by rfl) H.out.hb (H.out.hs a0 t HK.out) Try.underlying32 (by rfl) (by kernel_rfl) (by rfl) (by rfl) ?_
  simp only [Act.put, List.setIfInBounds_toArray, List.set_cons_zero, List.set_cons_succ]
  iterate 4 (refine SeqO.val (v := ?_) (by rfl) (by rfl) (fun w1 hS => ?_) ?_; rotate_left; (· obtain ⟨hc, hcf⟩ := bcell hS; go_simp; try with_reducible rfl); simp only [Act.put, List.setIfInBounds_toArray, List.set_cons_zero, List.set_cons_succ])
  refine SeqO.at (l := [.int .i64 u.side, .int .i64 u.at_, .int .i64 u.p.x, .int .i64 u.p.y, .int .i64 u.p.z]) (by rfl) (by rfl) H.out.hb (H.out.hs a1 u HK1.out) Try.underlying32 (by rfl) (by kernel_rfl) (by rfl) (by rfl) ?_
  simp only [Act.put, List.setIfInBounds_toArray, List.set_cons_zero, List.set_cons_succ]
  refine SeqO.row (l := [.int .i64 s.side, .int .i64 s.at_, .int .i64 s.p.x, .int .i64 s.p.y, .int .i64 s.p.z]) (by rfl) (by rfl) hS5 Try.underlying32 (by rfl) (by kernel_rfl) (by rfl) (by rfl) ?_
  simp only [Act.put, List.setIfInBounds_toArray, List.set_cons_zero, List.set_cons_succ]
  refine SeqO.callv (by rfl) (by rfl) (by rfl) cf21 (by simp [Act.eval]) (fun w1 hS => O1.out w1) ?_
  simp only [Act.put, List.setIfInBounds_toArray, List.set_cons_zero, List.set_cons_succ]
  refine SeqO.nil0 fun w3 hS3 => ?_
  refine Ph.last ?_
  simp only [List.drop_succ_cons, List.drop_zero, List.take_succ_cons, List.take_zero, Nat.reduceSub, Nat.sub_zero]
  have hR := hR.step hS3
  have hW := hW.trans (hS3.mono hW.size)
  refine wpL_store (cs := [.int .u64 (w8 (GAr.area t.p u.p s.p)).a, .int .u64 (w8 (GAr.area t.p u.p s.p)).b, .int .u64 (w8 (GAr.area t.p u.p s.p)).c, .int .u64 (w8 (GAr.area t.p u.p s.p)).d, .int .u64 (w8 (GAr.area t.p u.p s.p)).e, .int .u64 (w8 (GAr.area t.p u.p s.p)).f, .int .u64 (w8 (GAr.area t.p u.p s.p)).g, .int .u64 (w8 (GAr.area t.p u.p s.p)).h]) (by rfl) (by rfl) (by rfl) hR (by kernel_rfl) (by rfl) (by simp [Value.oneCell']) (by kernel_rfl) ?_
  conv => arg 5; simp only [Act.put, List.setIfInBounds_toArray, List.set_cons_zero, List.set_cons_succ]
  have hR := hR.row [.int .u64 (w8 (GAr.area t.p u.p s.p)).a, .int .u64 (w8 (GAr.area t.p u.p s.p)).b, .int .u64 (w8 (GAr.area t.p u.p s.p)).c, .int .u64 (w8 (GAr.area t.p u.p s.p)).d, .int .u64 (w8 (GAr.area t.p u.p s.p)).e, .int .u64 (w8 (GAr.area t.p u.p s.p)).f, .int .u64 (w8 (GAr.area t.p u.p s.p)).g, .int .u64 (w8 (GAr.area t.p u.p s.p)).h]
  have hW := below_setRow hW (g := w.heap.size + 1) (by omega) [.int .u64 (w8 (GAr.area t.p u.p s.p)).a, .int .u64 (w8 (GAr.area t.p u.p s.p)).b, .int .u64 (w8 (GAr.area t.p u.p s.p)).c, .int .u64 (w8 (GAr.area t.p u.p s.p)).d, .int .u64 (w8 (GAr.area t.p u.p s.p)).e, .int .u64 (w8 (GAr.area t.p u.p s.p)).f, .int .u64 (w8 (GAr.area t.p u.p s.p)).g, .int .u64 (w8 (GAr.area t.p u.p s.p)).h].toArray
  refine wpList_nil ?_
  go_wp2
  exact bodyPost_ret (v := .agg #[.int .u64 (w8 (GAr.area t.p u.p s.p)).a, .int .u64 (w8 (GAr.area t.p u.p s.p)).b, .int .u64 (w8 (GAr.area t.p u.p s.p)).c, .int .u64 (w8 (GAr.area t.p u.p s.p)).d, .int .u64 (w8 (GAr.area t.p u.p s.p)).e, .int .u64 (w8 (GAr.area t.p u.p s.p)).f, .int .u64 (w8 (GAr.area t.p u.p s.p)).g, .int .u64 (w8 (GAr.area t.p u.p s.p)).h]) (results_cell_row Try.results20 _ _ _ _ _ _ _ (by rfl) hR Try.underlying37 (by rfl) (by kernel_rfl)) rfl ⟨rfl, hW⟩
theorem far_half {a b : Pt} (ha : a.ok) (hb : b.ok) : WidB.half (GDot.far a b) := by
  have h := PSp.psub_sP ha hb
  have h1 := GCr.c30_mul h.x h.x; have h2 := GCr.c30_mul h.y h.y; have h3 := GCr.c30_mul h.z h.z
  unfold WidB.half GDot.far GDot.dot
  omega
theorem cmp_lt {x y : Int} (h : x < y) : cmpI x y = -1 := by unfold cmpI; rw [if_neg (by omega), if_pos h]
theorem cmp_ge {x y : Int} (h : ¬ x < y) : cmpI x y = 0 ∨ cmpI x y = 1 := by
  unfold cmpI
  by_cases e : x = y
  · left; rw [if_pos e]
  · right; rw [if_neg e, if_neg h]
theorem cmp_neg (x y : Int) : cmpI x y < 0 ↔ x < y := by
  unfold cmpI
  by_cases e : x = y
  · rw [if_pos e]; omega
  · rw [if_neg e]; by_cases h : x < y
    · rw [if_pos h]; omega
    · rw [if_neg h]; omega
def least (x y : Int) : Int := if y < x then y else x
theorem least_lt {x y : Int} (h : y < x) : least x y = y := if_pos h
theorem least_ge {x y : Int} (h : ¬ y < x) : least x y = x := if_neg h
theorem get_lt {α : Type} {l : List α} {k : Nat} {x : α} (h : l[k]? = some x) : k < l.length := by
  rcases Nat.lt_or_ge k l.length with h' | h'
  · exact h'
  · rw [List.getElem?_eq_none h'] at h; cases h
set_option maxRecDepth 100000 in
set_option maxHeartbeats 1000000 in
theorem p3C {w : World} {bl ba b off n cap : Nat} {l : List Spo} {a0 a1 a2 a3 : Nat} (h : Held w bl ba b off n cap l a0 a1 a2 a3) {s t u v : Spo} (hs : s.p.ok) (ht : t.p.ok) (hu : u.p.ok) (hv : v.p.ok) (hk : l[a0]? = some t) (hk1 : l[a1]? = some u) (hk2 : l[a2]? = some v) :
    RetB Try.prog 22 #[.agg #[.int .i64 s.side, .int .i64 s.at_, .int .i64 s.p.x, .int .i64 s.p.y, .int .i64 s.p.z], .pointer (some ⟨bl, 0, none⟩), .pointer (some ⟨ba, 0, none⟩)] w (.agg #[.int .u64 (w8 (least (least (GDot.far s.p t.p) (GDot.far s.p u.p)) (GDot.far s.p v.p))).a, .int .u64 (w8 (least (least (GDot.far s.p t.p) (GDot.far s.p u.p)) (GDot.far s.p v.p))).b, .int .u64 (w8 (least (least (GDot.far s.p t.p) (GDot.far s.p u.p)) (GDot.far s.p v.p))).c, .int .u64 (w8 (least (least (GDot.far s.p t.p) (GDot.far s.p u.p)) (GDot.far s.p v.p))).d, .int .u64 (w8 (least (least (GDot.far s.p t.p) (GDot.far s.p u.p)) (GDot.far s.p v.p))).e, .int .u64 (w8 (least (least (GDot.far s.p t.p) (GDot.far s.p u.p)) (GDot.far s.p v.p))).f, .int .u64 (w8 (least (least (GDot.far s.p t.p) (GDot.far s.p u.p)) (GDot.far s.p v.p))).g, .int .u64 (w8 (least (least (GDot.far s.p t.p) (GDot.far s.p u.p)) (GDot.far s.p v.p))).h]) := by
  have O1 := Lib.hid (fun w => GDot.farV hs ht w)
  have O2 := Lib.hid (fun w => GDot.farV hs hu w)
  have O3 := Lib.hid (fun w => GDot.farV hs hv w)
  have F1 := WidB.half_fits (far_half hs ht)
  have F2 := WidB.half_fits (far_half hs hu)
  have F3 := WidB.half_fits (far_half hs hv)
  have hlt : a0 < n := by rw [← h.hn]; exact get_lt hk
  have hlt1 : a1 < n := by rw [← h.hn]; exact get_lt hk1
  have hlt2 : a2 < n := by rw [← h.hn]; exact get_lt hk2
  have H := Lib.hid h
  have HK := Lib.hid hk; have HK1 := Lib.hid hk1; have HK2 := Lib.hid hk2
  have hi := h.hi
  clear hs ht hu hv h hk hk1 hk2
  generalize hx : GDot.far s.p t.p = x at *
  generalize hy : GDot.far s.p u.p = y at *
  generalize hz : GDot.far s.p v.p = z at *
  clear hx hy hz
  unfold RetB
  go_enter Try.func22, Try.ntmps22
  go_wp2
  have hS5 : Box ((w.alloc (.cells [.int .i64 s.side, .int .i64 s.at_, .int .i64 s.p.x, .int .i64 s.p.y, .int .i64 s.p.z].toArray 32)).alloc (.cells [.int .u64 0, .int .u64 0, .int .u64 0, .int .u64 0, .int .u64 0, .int .u64 0, .int .u64 0, .int .u64 0].toArray 37)) w.heap.size [.int .i64 s.side, .int .i64 s.at_, .int .i64 s.p.x, .int .i64 s.p.y, .int .i64 s.p.z] 32 := (Box.new rfl).alloc _
  have hR : Box ((w.alloc (.cells [.int .i64 s.side, .int .i64 s.at_, .int .i64 s.p.x, .int .i64 s.p.y, .int .i64 s.p.z].toArray 32)).alloc (.cells [.int .u64 0, .int .u64 0, .int .u64 0, .int .u64 0, .int .u64 0, .int .u64 0, .int .u64 0, .int .u64 0].toArray 37)) (w.heap.size + 1) [.int .u64 0, .int .u64 0, .int .u64 0, .int .u64 0, .int .u64 0, .int .u64 0, .int .u64 0, .int .u64 0] 37 := Box.new (by simp)
  have hW : Below w.heap.size w ((w.alloc (.cells [.int .i64 s.side, .int .i64 s.at_, .int .i64 s.p.x, .int .i64 s.p.y, .int .i64 s.p.z].toArray 32)).alloc (.cells [.int .u64 0, .int .u64 0, .int .u64 0, .int .u64 0, .int .u64 0, .int .u64 0, .int .u64 0, .int .u64 0].toArray 37)) := ((Below.refl _ _).alloc (Nat.le_refl _) _).alloc (by simp) _
  have H := Lib.hid (H.out.step hW)
  revert hS5 hR hW H
  generalize ((w.alloc (.cells [.int .i64 s.side, .int .i64 s.at_, .int .i64 s.p.x, .int .i64 s.p.y, .int .i64 s.p.z].toArray 32)).alloc (.cells [.int .u64 0, .int .u64 0, .int .u64 0, .int .u64 0, .int .u64 0, .int .u64 0, .int .u64 0, .int .u64 0].toArray 37)) = w2
  intro hS5 hR hW H
  have z0 := H.out.hl.cell 0
  have z1 := H.out.ha.cell 0
  have m0 := H.out.hl.lt
  have m1 := H.out.ha.lt
  have mR := hR.lt
  simp only [List.getElem?_cons_zero, List.getElem?_cons_succ] at z0 z1
  refine wp_region_ph [(8, .free [7])] (by kernel_rfl) (by kernel_rfl) ?_
  refine Ph.maded [(7, [.int .u64 0, .int .u64 0, .int .u64 0, .int .u64 0, .int .u64 0, .int .u64 0, .int .u64 0, .int .u64 0], 37)] (by rfl) ?_
  simp only [List.drop_succ_cons, List.drop_zero, List.take_succ_cons, List.take_zero, Nat.reduceSub, Nat.sub_zero]
  refine SeqO.row (l := [.int .i64 s.side, .int .i64 s.at_, .int .i64 s.p.x, .int .i64 s.p.y, .int .i64 s.p.z]) (by rfl) (by rfl) hS5 Try.underlying32 (by rfl) (by kernel_rfl) (by rfl) (by rfl) ?_
  simp only [Act.put, List.setIfInBounds_toArray, List.set_cons_zero, List.set_cons_succ]
  iterate 4 (refine SeqO.val (v := ?_) (by rfl) (by rfl) (fun w1 hS => ?_) ?_; rotate_left; (· obtain ⟨hc, hcf⟩ := bcell hS; go_simp; try with_reducible rfl); simp only [Act.put, List.setIfInBounds_toArray, List.set_cons_zero, List.set_cons_succ])
  refine SeqO.at (l := [.int .i64 t.side, .int .i64 t.at_, .int .i64 t.p.x, .int .i64 t.p.y, .int .i64 t.p.z]) (by rfl) (by rfl) H.out.hb (H.out.hs a0 t HK.out) Try.underlying32 (by rfl) (by kernel_rfl) (by rfl) (by rfl) ?_
  simp only [Act.put, List.setIfInBounds_toArray, List.set_cons_zero, List.set_cons_succ]
  refine SeqO.callv (by rfl) (by rfl) (by rfl) cf19 (by simp [Act.eval]) (fun w1 hS => O1.out w1) ?_
  simp only [Act.put, List.setIfInBounds_toArray, List.set_cons_zero, List.set_cons_succ]
  refine SeqO.alloc (cs := [.int .u64 0, .int .u64 0, .int .u64 0, .int .u64 0, .int .u64 0, .int .u64 0, .int .u64 0, .int .u64 0]) (Ty := 37) (by rfl) ⟨37, by simp⟩ (by rfl) (by simp) (by rfl) (fun w => by go_simp) ?_
  refine SeqO.nil fun L u' w3 hL hK => ?_
  obtain ⟨g, hg, hge, hbx⟩ := hK.made _ (List.mem_cons_self) (hL 7 (by omega))
  have hS := hK.below
  clear hK hL z0 z1
  simp only [List.nil_append, List.foldl_cons, List.foldl_nil, hg]
  refine Ph.last ?_
  simp only [List.drop_succ_cons, List.drop_zero, List.take_succ_cons, List.take_zero, Nat.reduceSub, Nat.sub_zero]
  clear hg
  have hP : Box w3 g [.int .u64 0, .int .u64 0, .int .u64 0, .int .u64 0, .int .u64 0, .int .u64 0, .int .u64 0, .int .u64 0] 37 := hbx
  have hge : w2.heap.size ≤ g := hge
  have hle := hW.size
  refine wpL_store (cs := [.int .u64 (w8 x).a, .int .u64 (w8 x).b, .int .u64 (w8 x).c, .int .u64 (w8 x).d, .int .u64 (w8 x).e, .int .u64 (w8 x).f, .int .u64 (w8 x).g, .int .u64 (w8 x).h]) (by rfl) (by rfl) (by rfl) hP (by kernel_rfl) (by rfl) (by simp [Value.oneCell']) (by kernel_rfl) ?_
  conv => arg 5; simp only [Act.put, List.setIfInBounds_toArray, List.set_cons_zero, List.set_cons_succ]
  refine wpList_nil ?_
  have hN := hP.row [.int .u64 (w8 x).a, .int .u64 (w8 x).b, .int .u64 (w8 x).c, .int .u64 (w8 x).d, .int .u64 (w8 x).e, .int .u64 (w8 x).f, .int .u64 (w8 x).g, .int .u64 (w8 x).h]
  have hB := below_setRow hS (g := g) (by omega) [.int .u64 (w8 x).a, .int .u64 (w8 x).b, .int .u64 (w8 x).c, .int .u64 (w8 x).d, .int .u64 (w8 x).e, .int .u64 (w8 x).f, .int .u64 (w8 x).g, .int .u64 (w8 x).h].toArray
  clear hS hbx hP
  revert hN hB
  generalize w3.setRow g [.int .u64 (w8 x).a, .int .u64 (w8 x).b, .int .u64 (w8 x).c, .int .u64 (w8 x).d, .int .u64 (w8 x).e, .int .u64 (w8 x).f, .int .u64 (w8 x).g, .int .u64 (w8 x).h].toArray = wx
  intro hN hB
  iterate 5 go_step
  iterate 3 (with_reducible refine wpL_val (v := ?_) ?_ ?_ ?_; rotate_left; (· kernel_rfl); (· go_simp; try with_reducible rfl); conv => arg 5; simp only [Act.put, List.setIfInBounds_toArray, List.set_cons_zero, List.set_cons_succ])
  refine wpList_nil ?_
  iterate 3 go_step
  refine wp_loop_rounds 3 ?_
  have H1 := H.out.step hB
  have hS6 := hS5.step hB
  have z0 := H1.hl.cell 0
  have z1 := H1.ha.cell 1
  have m3 := H1.hl.lt
  have m4 := H1.ha.lt
  have m5 := hN.lt
  simp only [List.getElem?_cons_zero, List.getElem?_cons_succ] at z0 z1
  rw [rounds_succ]
  iterate 2 go_step
  iterate 1 (with_reducible refine wpL_val (v := ?_) ?_ ?_ ?_; rotate_left; (· kernel_rfl); (· go_simp; try with_reducible rfl); conv => arg 5; simp only [Act.put, List.setIfInBounds_toArray, List.set_cons_zero, List.set_cons_succ])
  refine wpList_nil ?_
  iterate 11 go_step
  iterate 3 (with_reducible refine wpL_val (v := ?_) ?_ ?_ ?_; rotate_left; (· kernel_rfl); (· go_simp; try with_reducible rfl); conv => arg 5; simp only [Act.put, List.setIfInBounds_toArray, List.set_cons_zero, List.set_cons_succ])
  refine wpList_nil ?_
  iterate 3 go_step
  refine wp_region_ph [(7, .free [6])] (by kernel_rfl) (by kernel_rfl) ?_
  refine Ph.maded [(6, [.int .u64 0, .int .u64 0, .int .u64 0, .int .u64 0, .int .u64 0, .int .u64 0, .int .u64 0, .int .u64 0], 37)] (by rfl) ?_
  simp only [List.drop_succ_cons, List.drop_zero, List.take_succ_cons, List.take_zero, Nat.reduceSub, Nat.sub_zero]
  refine SeqO.row (l := [.int .i64 s.side, .int .i64 s.at_, .int .i64 s.p.x, .int .i64 s.p.y, .int .i64 s.p.z]) (by rfl) (by rfl) hS6 Try.underlying32 (by rfl) (by kernel_rfl) (by rfl) (by rfl) ?_
  simp only [Act.put, List.setIfInBounds_toArray, List.set_cons_zero, List.set_cons_succ]
  iterate 3 (refine SeqO.val (v := ?_) (by rfl) (by rfl) (fun w1 hS => ?_) ?_; rotate_left; (· obtain ⟨hc, hcf⟩ := bcell hS; go_simp; try with_reducible rfl); simp only [Act.put, List.setIfInBounds_toArray, List.set_cons_zero, List.set_cons_succ])
  refine SeqO.at (l := [.int .i64 u.side, .int .i64 u.at_, .int .i64 u.p.x, .int .i64 u.p.y, .int .i64 u.p.z]) (by rfl) (by rfl) H1.hb (H1.hs a1 u HK1.out) Try.underlying32 (by rfl) (by kernel_rfl) (by rfl) (by rfl) ?_
  simp only [Act.put, List.setIfInBounds_toArray, List.set_cons_zero, List.set_cons_succ]
  refine SeqO.callv (by rfl) (by rfl) (by rfl) cf19 (by simp [Act.eval]) (fun w1 hS => O2.out w1) ?_
  simp only [Act.put, List.setIfInBounds_toArray, List.set_cons_zero, List.set_cons_succ]
  refine SeqO.alloc (cs := [.int .u64 0, .int .u64 0, .int .u64 0, .int .u64 0, .int .u64 0, .int .u64 0, .int .u64 0, .int .u64 0]) (Ty := 37) (by rfl) ⟨37, by simp⟩ (by rfl) (by simp) (by rfl) (fun w => by go_simp) ?_
  refine SeqO.nil fun L u' w4 hL hK => ?_
  obtain ⟨g8, hg, hge8, hbx⟩ := hK.made _ (List.mem_cons_self) (hL 6 (by omega))
  have hS := hK.below
  clear hK hL z0 z1
  simp only [List.nil_append, List.foldl_cons, List.foldl_nil, hg]
  refine Ph.last ?_
  simp only [List.drop_succ_cons, List.drop_zero, List.take_succ_cons, List.take_zero, Nat.reduceSub, Nat.sub_zero]
  clear hg
  have hP : Box w4 g8 [.int .u64 0, .int .u64 0, .int .u64 0, .int .u64 0, .int .u64 0, .int .u64 0, .int .u64 0, .int .u64 0] 37 := hbx
  have hge8 : wx.heap.size ≤ g8 := hge8
  refine wpL_store (cs := [.int .u64 (w8 y).a, .int .u64 (w8 y).b, .int .u64 (w8 y).c, .int .u64 (w8 y).d, .int .u64 (w8 y).e, .int .u64 (w8 y).f, .int .u64 (w8 y).g, .int .u64 (w8 y).h]) (by rfl) (by rfl) (by rfl) hP (by kernel_rfl) (by rfl) (by simp [Value.oneCell']) (by kernel_rfl) ?_
  conv => arg 5; simp only [Act.put, List.setIfInBounds_toArray, List.set_cons_zero, List.set_cons_succ]
  refine wpList_nil ?_
  have h8 := hP.row [.int .u64 (w8 y).a, .int .u64 (w8 y).b, .int .u64 (w8 y).c, .int .u64 (w8 y).d, .int .u64 (w8 y).e, .int .u64 (w8 y).f, .int .u64 (w8 y).g, .int .u64 (w8 y).h]
  have hN := (hN.step hS).rowOther (g := g8) (by omega) [.int .u64 (w8 y).a, .int .u64 (w8 y).b, .int .u64 (w8 y).c, .int .u64 (w8 y).d, .int .u64 (w8 y).e, .int .u64 (w8 y).f, .int .u64 (w8 y).g, .int .u64 (w8 y).h].toArray
  have hB := below_setRow (hB.trans (hS.mono hB.size)) (g := g8) (by have := hB.size; omega) [.int .u64 (w8 y).a, .int .u64 (w8 y).b, .int .u64 (w8 y).c, .int .u64 (w8 y).d, .int .u64 (w8 y).e, .int .u64 (w8 y).f, .int .u64 (w8 y).g, .int .u64 (w8 y).h].toArray
  clear hS hbx hP
  revert h8 hN hB
  generalize w4.setRow g8 [.int .u64 (w8 y).a, .int .u64 (w8 y).b, .int .u64 (w8 y).c, .int .u64 (w8 y).d, .int .u64 (w8 y).e, .int .u64 (w8 y).f, .int .u64 (w8 y).g, .int .u64 (w8 y).h].toArray = wx
  intro h8 hN hB
  have HQ := Lib.hid (cmp_neg y x)
  iterate 4 go_step
  refine wpL_load (l := [.int .u64 (w8 y).a, .int .u64 (w8 y).b, .int .u64 (w8 y).c, .int .u64 (w8 y).d, .int .u64 (w8 y).e, .int .u64 (w8 y).f, .int .u64 (w8 y).g, .int .u64 (w8 y).h]) (by rfl) (by rfl) h8 Try.underlying37 (by rfl) (by kernel_rfl) (by kernel_rfl) ?_
  conv => arg 5; simp only [Act.put, List.setIfInBounds_toArray, List.set_cons_zero, List.set_cons_succ]
  refine wpL_load (l := [.int .u64 (w8 x).a, .int .u64 (w8 x).b, .int .u64 (w8 x).c, .int .u64 (w8 x).d, .int .u64 (w8 x).e, .int .u64 (w8 x).f, .int .u64 (w8 x).g, .int .u64 (w8 x).h]) (by rfl) (by rfl) hN Try.underlying37 (by rfl) (by kernel_rfl) (by kernel_rfl) ?_
  conv => arg 5; simp only [Act.put, List.setIfInBounds_toArray, List.set_cons_zero, List.set_cons_succ]
  with_reducible refine wpL_call (ca := ?_) (args := ?_) ?_ ?_ cf13 ?_ ?_
  rotate_left 2
  · kernel_rfl
  · rfl
  · simp [Act.eval] <;> rfl
  refine (WidA.cmpW F2 F1 _).mono ?_
  rintro e wx ⟨rfl, hS⟩
  refine ⟨_, rfl, ?_⟩
  conv => arg 5; simp only [Act.put, List.setIfInBounds_toArray, List.set_cons_zero, List.set_cons_succ]
  have h8 := h8.step hS; have hN := hN.step hS; have hB := hB.trans (hS.mono hB.size)
  clear hS
  generalize cmpI y x = q at *
  iterate 1 (with_reducible refine wpL_val (v := ?_) ?_ ?_ ?_; rotate_left; (· kernel_rfl); (· go_simp; try with_reducible rfl); conv => arg 5; simp only [Act.put, List.setIfInBounds_toArray, List.set_cons_zero, List.set_cons_succ])
  refine wpList_nil ?_
  iterate 3 go_step
  focus
    have hc : y < x := HQ.out.1 (by assumption)
    go_step
    refine wpL_load (l := [.int .u64 (w8 y).a, .int .u64 (w8 y).b, .int .u64 (w8 y).c, .int .u64 (w8 y).d, .int .u64 (w8 y).e, .int .u64 (w8 y).f, .int .u64 (w8 y).g, .int .u64 (w8 y).h]) (by rfl) (by rfl) h8 Try.underlying37 (by rfl) (by kernel_rfl) (by kernel_rfl) ?_
    conv => arg 5; simp only [Act.put, List.setIfInBounds_toArray, List.set_cons_zero, List.set_cons_succ]
    refine wpL_store (cs := [.int .u64 (w8 y).a, .int .u64 (w8 y).b, .int .u64 (w8 y).c, .int .u64 (w8 y).d, .int .u64 (w8 y).e, .int .u64 (w8 y).f, .int .u64 (w8 y).g, .int .u64 (w8 y).h]) (by rfl) (by rfl) (by rfl) hN (by kernel_rfl) (by rfl) (by simp [Value.oneCell']) (by kernel_rfl) ?_
    conv => arg 5; simp only [Act.put, List.setIfInBounds_toArray, List.set_cons_zero, List.set_cons_succ]
    refine wpList_nil ?_
    have hN : Box _ g [.int .u64 (w8 (least x y)).a, .int .u64 (w8 (least x y)).b, .int .u64 (w8 (least x y)).c, .int .u64 (w8 (least x y)).d, .int .u64 (w8 (least x y)).e, .int .u64 (w8 (least x y)).f, .int .u64 (w8 (least x y)).g, .int .u64 (w8 (least x y)).h] 37 := (hN.row [.int .u64 (w8 y).a, .int .u64 (w8 y).b, .int .u64 (w8 y).c, .int .u64 (w8 y).d, .int .u64 (w8 y).e, .int .u64 (w8 y).f, .int .u64 (w8 y).g, .int .u64 (w8 y).h]).cast (by rw [least_lt hc])
    have hB := below_setRow hB (g := g) (by omega) [.int .u64 (w8 y).a, .int .u64 (w8 y).b, .int .u64 (w8 y).c, .int .u64 (w8 y).d, .int .u64 (w8 y).e, .int .u64 (w8 y).f, .int .u64 (w8 y).g, .int .u64 (w8 y).h].toArray
    iterate 11 go_step
    revert hN hB
    generalize World.setRow _ g [.int .u64 (w8 y).a, .int .u64 (w8 y).b, .int .u64 (w8 y).c, .int .u64 (w8 y).d, .int .u64 (w8 y).e, .int .u64 (w8 y).f, .int .u64 (w8 y).g, .int .u64 (w8 y).h].toArray = wx
    intro hN hB
    clear hc
  rotate_left
  focus
    have hc : ¬ y < x := fun h => (by have := HQ.out.2 h; omega)
    have hN : Box _ g [.int .u64 (w8 (least x y)).a, .int .u64 (w8 (least x y)).b, .int .u64 (w8 (least x y)).c, .int .u64 (w8 (least x y)).d, .int .u64 (w8 (least x y)).e, .int .u64 (w8 (least x y)).f, .int .u64 (w8 (least x y)).g, .int .u64 (w8 (least x y)).h] 37 := hN.cast (by rw [least_ge hc])
    iterate 12 go_step
    clear hc
  rotate_left
  all_goals
    clear HQ h8 H1 hS6
    have F4 : fits (least x y) := by unfold least; split <;> assumption
    have H1 := H.out.step hB
    have hS6 := hS5.step hB
    have z0 := H1.hl.cell 0
    have z1 := H1.ha.cell 2
    have m3 := H1.hl.lt
    have m4 := H1.ha.lt
    have m5 := hN.lt
    simp only [List.getElem?_cons_zero, List.getElem?_cons_succ] at z0 z1
    rw [rounds_succ]
    iterate 2 go_step
    iterate 1 (with_reducible refine wpL_val (v := ?_) ?_ ?_ ?_; rotate_left; (· kernel_rfl); (· go_simp; try with_reducible rfl); conv => arg 5; simp only [Act.put, List.setIfInBounds_toArray, List.set_cons_zero, List.set_cons_succ])
    refine wpList_nil ?_
    iterate 11 go_step
    iterate 3 (with_reducible refine wpL_val (v := ?_) ?_ ?_ ?_; rotate_left; (· kernel_rfl); (· go_simp; try with_reducible rfl); conv => arg 5; simp only [Act.put, List.setIfInBounds_toArray, List.set_cons_zero, List.set_cons_succ])
    refine wpList_nil ?_
    iterate 3 go_step
    refine wp_region_ph [(7, .free [6])] (by kernel_rfl) (by kernel_rfl) ?_
    refine Ph.maded [(6, [.int .u64 0, .int .u64 0, .int .u64 0, .int .u64 0, .int .u64 0, .int .u64 0, .int .u64 0, .int .u64 0], 37)] (by rfl) ?_
    simp only [List.drop_succ_cons, List.drop_zero, List.take_succ_cons, List.take_zero, Nat.reduceSub, Nat.sub_zero]
    refine SeqO.row (l := [.int .i64 s.side, .int .i64 s.at_, .int .i64 s.p.x, .int .i64 s.p.y, .int .i64 s.p.z]) (by rfl) (by rfl) hS6 Try.underlying32 (by rfl) (by kernel_rfl) (by rfl) (by rfl) ?_
    simp only [Act.put, List.setIfInBounds_toArray, List.set_cons_zero, List.set_cons_succ]
    iterate 3 (refine SeqO.val (v := ?_) (by rfl) (by rfl) (fun w1 hS => ?_) ?_; rotate_left; (· obtain ⟨hc, hcf⟩ := bcell hS; go_simp; try with_reducible rfl); simp only [Act.put, List.setIfInBounds_toArray, List.set_cons_zero, List.set_cons_succ])
    refine SeqO.at (l := [.int .i64 v.side, .int .i64 v.at_, .int .i64 v.p.x, .int .i64 v.p.y, .int .i64 v.p.z]) (by rfl) (by rfl) H1.hb (H1.hs a2 v HK2.out) Try.underlying32 (by rfl) (by kernel_rfl) (by rfl) (by rfl) ?_
    simp only [Act.put, List.setIfInBounds_toArray, List.set_cons_zero, List.set_cons_succ]
    refine SeqO.callv (by rfl) (by rfl) (by rfl) cf19 (by simp [Act.eval]) (fun w1 hS => O3.out w1) ?_
    simp only [Act.put, List.setIfInBounds_toArray, List.set_cons_zero, List.set_cons_succ]
    refine SeqO.alloc (cs := [.int .u64 0, .int .u64 0, .int .u64 0, .int .u64 0, .int .u64 0, .int .u64 0, .int .u64 0, .int .u64 0]) (Ty := 37) (by rfl) ⟨37, by simp⟩ (by rfl) (by simp) (by rfl) (fun w => by go_simp) ?_
    refine SeqO.nil fun L u' w4 hL hK => ?_
    obtain ⟨g8, hg, hge8, hbx⟩ := hK.made _ (List.mem_cons_self) (hL 6 (by omega))
    have hS := hK.below
    clear hK hL z0 z1
    simp only [List.nil_append, List.foldl_cons, List.foldl_nil, hg]
    refine Ph.last ?_
    simp only [List.drop_succ_cons, List.drop_zero, List.take_succ_cons, List.take_zero, Nat.reduceSub, Nat.sub_zero]
    clear hg
    have hP : Box w4 g8 [.int .u64 0, .int .u64 0, .int .u64 0, .int .u64 0, .int .u64 0, .int .u64 0, .int .u64 0, .int .u64 0] 37 := hbx
    have hge8 : wx.heap.size ≤ g8 := hge8
    refine wpL_store (cs := [.int .u64 (w8 z).a, .int .u64 (w8 z).b, .int .u64 (w8 z).c, .int .u64 (w8 z).d, .int .u64 (w8 z).e, .int .u64 (w8 z).f, .int .u64 (w8 z).g, .int .u64 (w8 z).h]) (by rfl) (by rfl) (by rfl) hP (by kernel_rfl) (by rfl) (by simp [Value.oneCell']) (by kernel_rfl) ?_
    conv => arg 5; simp only [Act.put, List.setIfInBounds_toArray, List.set_cons_zero, List.set_cons_succ]
    refine wpList_nil ?_
    have h8 := hP.row [.int .u64 (w8 z).a, .int .u64 (w8 z).b, .int .u64 (w8 z).c, .int .u64 (w8 z).d, .int .u64 (w8 z).e, .int .u64 (w8 z).f, .int .u64 (w8 z).g, .int .u64 (w8 z).h]
    have hN := (hN.step hS).rowOther (g := g8) (by omega) [.int .u64 (w8 z).a, .int .u64 (w8 z).b, .int .u64 (w8 z).c, .int .u64 (w8 z).d, .int .u64 (w8 z).e, .int .u64 (w8 z).f, .int .u64 (w8 z).g, .int .u64 (w8 z).h].toArray
    have hB := below_setRow (hB.trans (hS.mono hB.size)) (g := g8) (by have := hB.size; omega) [.int .u64 (w8 z).a, .int .u64 (w8 z).b, .int .u64 (w8 z).c, .int .u64 (w8 z).d, .int .u64 (w8 z).e, .int .u64 (w8 z).f, .int .u64 (w8 z).g, .int .u64 (w8 z).h].toArray
    clear hS hbx hP
    revert h8 hN hB
    generalize w4.setRow g8 [.int .u64 (w8 z).a, .int .u64 (w8 z).b, .int .u64 (w8 z).c, .int .u64 (w8 z).d, .int .u64 (w8 z).e, .int .u64 (w8 z).f, .int .u64 (w8 z).g, .int .u64 (w8 z).h].toArray = wx
    intro h8 hN hB
    have HQ := Lib.hid (cmp_neg z (least x y))
    iterate 4 go_step
    refine wpL_load (l := [.int .u64 (w8 z).a, .int .u64 (w8 z).b, .int .u64 (w8 z).c, .int .u64 (w8 z).d, .int .u64 (w8 z).e, .int .u64 (w8 z).f, .int .u64 (w8 z).g, .int .u64 (w8 z).h]) (by rfl) (by rfl) h8 Try.underlying37 (by rfl) (by kernel_rfl) (by kernel_rfl) ?_
    conv => arg 5; simp only [Act.put, List.setIfInBounds_toArray, List.set_cons_zero, List.set_cons_succ]
    refine wpL_load (l := [.int .u64 (w8 (least x y)).a, .int .u64 (w8 (least x y)).b, .int .u64 (w8 (least x y)).c, .int .u64 (w8 (least x y)).d, .int .u64 (w8 (least x y)).e, .int .u64 (w8 (least x y)).f, .int .u64 (w8 (least x y)).g, .int .u64 (w8 (least x y)).h]) (by rfl) (by rfl) hN Try.underlying37 (by rfl) (by kernel_rfl) (by kernel_rfl) ?_
    conv => arg 5; simp only [Act.put, List.setIfInBounds_toArray, List.set_cons_zero, List.set_cons_succ]
    with_reducible refine wpL_call (ca := ?_) (args := ?_) ?_ ?_ cf13 ?_ ?_
    rotate_left 2
    · kernel_rfl
    · rfl
    · simp [Act.eval] <;> rfl
    refine (WidA.cmpW F3 F4 _).mono ?_
    rintro e wx ⟨rfl, hS⟩
    refine ⟨_, rfl, ?_⟩
    conv => arg 5; simp only [Act.put, List.setIfInBounds_toArray, List.set_cons_zero, List.set_cons_succ]
    have h8 := h8.step hS; have hN := hN.step hS; have hB := hB.trans (hS.mono hB.size)
    clear hS
    generalize cmpI z (least x y) = q at *
    iterate 1 (with_reducible refine wpL_val (v := ?_) ?_ ?_ ?_; rotate_left; (· kernel_rfl); (· go_simp; try with_reducible rfl); conv => arg 5; simp only [Act.put, List.setIfInBounds_toArray, List.set_cons_zero, List.set_cons_succ])
    refine wpList_nil ?_
    iterate 3 go_step
    focus
      have hc : z < (least x y) := HQ.out.1 (by assumption)
      go_step
      refine wpL_load (l := [.int .u64 (w8 z).a, .int .u64 (w8 z).b, .int .u64 (w8 z).c, .int .u64 (w8 z).d, .int .u64 (w8 z).e, .int .u64 (w8 z).f, .int .u64 (w8 z).g, .int .u64 (w8 z).h]) (by rfl) (by rfl) h8 Try.underlying37 (by rfl) (by kernel_rfl) (by kernel_rfl) ?_
      conv => arg 5; simp only [Act.put, List.setIfInBounds_toArray, List.set_cons_zero, List.set_cons_succ]
      refine wpL_store (cs := [.int .u64 (w8 z).a, .int .u64 (w8 z).b, .int .u64 (w8 z).c, .int .u64 (w8 z).d, .int .u64 (w8 z).e, .int .u64 (w8 z).f, .int .u64 (w8 z).g, .int .u64 (w8 z).h]) (by rfl) (by rfl) (by rfl) hN (by kernel_rfl) (by rfl) (by simp [Value.oneCell']) (by kernel_rfl) ?_
      conv => arg 5; simp only [Act.put, List.setIfInBounds_toArray, List.set_cons_zero, List.set_cons_succ]
      refine wpList_nil ?_
      have hN : Box _ g [.int .u64 (w8 (least (least x y) z)).a, .int .u64 (w8 (least (least x y) z)).b, .int .u64 (w8 (least (least x y) z)).c, .int .u64 (w8 (least (least x y) z)).d, .int .u64 (w8 (least (least x y) z)).e, .int .u64 (w8 (least (least x y) z)).f, .int .u64 (w8 (least (least x y) z)).g, .int .u64 (w8 (least (least x y) z)).h] 37 := (hN.row [.int .u64 (w8 z).a, .int .u64 (w8 z).b, .int .u64 (w8 z).c, .int .u64 (w8 z).d, .int .u64 (w8 z).e, .int .u64 (w8 z).f, .int .u64 (w8 z).g, .int .u64 (w8 z).h]).cast (by rw [least_lt hc])
      have hB := below_setRow hB (g := g) (by omega) [.int .u64 (w8 z).a, .int .u64 (w8 z).b, .int .u64 (w8 z).c, .int .u64 (w8 z).d, .int .u64 (w8 z).e, .int .u64 (w8 z).f, .int .u64 (w8 z).g, .int .u64 (w8 z).h].toArray
      iterate 11 go_step
      revert hN hB
      generalize World.setRow _ g [.int .u64 (w8 z).a, .int .u64 (w8 z).b, .int .u64 (w8 z).c, .int .u64 (w8 z).d, .int .u64 (w8 z).e, .int .u64 (w8 z).f, .int .u64 (w8 z).g, .int .u64 (w8 z).h].toArray = wx
      intro hN hB
      clear hc
    rotate_left
    focus
      have hc : ¬ z < (least x y) := fun h => (by have := HQ.out.2 h; omega)
      have hN : Box _ g [.int .u64 (w8 (least (least x y) z)).a, .int .u64 (w8 (least (least x y) z)).b, .int .u64 (w8 (least (least x y) z)).c, .int .u64 (w8 (least (least x y) z)).d, .int .u64 (w8 (least (least x y) z)).e, .int .u64 (w8 (least (least x y) z)).f, .int .u64 (w8 (least (least x y) z)).g, .int .u64 (w8 (least (least x y) z)).h] 37 := hN.cast (by rw [least_ge hc])
      iterate 12 go_step
      clear hc
    rotate_left
    all_goals
      clear HQ h8 H1 hS6
      rw [rounds_succ]
      iterate 2 go_step
      iterate 1 (with_reducible refine wpL_val (v := ?_) ?_ ?_ ?_; rotate_left; (· kernel_rfl); (· go_simp; try with_reducible rfl); conv => arg 5; simp only [Act.put, List.setIfInBounds_toArray, List.set_cons_zero, List.set_cons_succ])
      refine wpList_nil ?_
      iterate 9 go_step
      refine wpL_load (l := [.int .u64 (w8 (least (least x y) z)).a, .int .u64 (w8 (least (least x y) z)).b, .int .u64 (w8 (least (least x y) z)).c, .int .u64 (w8 (least (least x y) z)).d, .int .u64 (w8 (least (least x y) z)).e, .int .u64 (w8 (least (least x y) z)).f, .int .u64 (w8 (least (least x y) z)).g, .int .u64 (w8 (least (least x y) z)).h]) (by rfl) (by rfl) hN Try.underlying37 (by rfl) (by kernel_rfl) (by kernel_rfl) ?_
      conv => arg 5; simp only [Act.put, List.setIfInBounds_toArray, List.set_cons_zero, List.set_cons_succ]
      have hR := hR.step hB
      have hW := hW.trans (hB.mono hle)
      refine wpL_store (cs := [.int .u64 (w8 (least (least x y) z)).a, .int .u64 (w8 (least (least x y) z)).b, .int .u64 (w8 (least (least x y) z)).c, .int .u64 (w8 (least (least x y) z)).d, .int .u64 (w8 (least (least x y) z)).e, .int .u64 (w8 (least (least x y) z)).f, .int .u64 (w8 (least (least x y) z)).g, .int .u64 (w8 (least (least x y) z)).h]) (by rfl) (by rfl) (by rfl) hR (by kernel_rfl) (by rfl) (by simp [Value.oneCell']) (by kernel_rfl) ?_
      conv => arg 5; simp only [Act.put, List.setIfInBounds_toArray, List.set_cons_zero, List.set_cons_succ]
      have hR := hR.row [.int .u64 (w8 (least (least x y) z)).a, .int .u64 (w8 (least (least x y) z)).b, .int .u64 (w8 (least (least x y) z)).c, .int .u64 (w8 (least (least x y) z)).d, .int .u64 (w8 (least (least x y) z)).e, .int .u64 (w8 (least (least x y) z)).f, .int .u64 (w8 (least (least x y) z)).g, .int .u64 (w8 (least (least x y) z)).h]
      have hW := below_setRow hW (g := w.heap.size + 1) (by omega) [.int .u64 (w8 (least (least x y) z)).a, .int .u64 (w8 (least (least x y) z)).b, .int .u64 (w8 (least (least x y) z)).c, .int .u64 (w8 (least (least x y) z)).d, .int .u64 (w8 (least (least x y) z)).e, .int .u64 (w8 (least (least x y) z)).f, .int .u64 (w8 (least (least x y) z)).g, .int .u64 (w8 (least (least x y) z)).h].toArray
      refine wpList_nil ?_
      go_wp2
      exact bodyPost_ret (v := .agg #[.int .u64 (w8 (least (least x y) z)).a, .int .u64 (w8 (least (least x y) z)).b, .int .u64 (w8 (least (least x y) z)).c, .int .u64 (w8 (least (least x y) z)).d, .int .u64 (w8 (least (least x y) z)).e, .int .u64 (w8 (least (least x y) z)).f, .int .u64 (w8 (least (least x y) z)).g, .int .u64 (w8 (least (least x y) z)).h]) (results_cell_row Try.results22 _ _ _ _ _ _ _ (by rfl) hR Try.underlying37 (by rfl) (by kernel_rfl)) rfl ⟨rfl, hW⟩
end PCl
end Go.Proofs.Ytbbiefgmlklafaa
