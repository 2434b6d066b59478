/- The sum of products of two points of small numbers; how far two spots are apart: the walks. No condition. -/
import Derived.Test.YtbbiefgmlklafaaGAl
import Derived.Test.YtbbiefgmlklafaaPSp
namespace Go.Proofs.Ytbbiefgmlklafaa
set_option linter.unusedVariables false
set_option linter.unusedSimpArgs false
open Go.RowKit Go.NP
namespace GDot
theorem cf46 (args : Array Value) (w1 : World) : (callFunc 46 args).run Try.prog w1 = .ok (.enter 46 args) w1 := enters Try.func46 (by kernel_rfl) (by kernel_rfl) args w1
theorem cf45 (args : Array Value) (w1 : World) : (callFunc 45 args).run Try.prog w1 = .ok (.enter 45 args) w1 := enters Try.func45 (by kernel_rfl) (by kernel_rfl) args w1
theorem cf30 (args : Array Value) (w1 : World) : (callFunc 30 args).run Try.prog w1 = .ok (.enter 30 args) w1 := enters Try.func30 (by kernel_rfl) (by kernel_rfl) args w1
theorem cf33 (args : Array Value) (w1 : World) : (callFunc 33 args).run Try.prog w1 = .ok (.enter 33 args) w1 := enters Try.func33 (by kernel_rfl) (by kernel_rfl) args w1
def dot (p q : Pt) : Int := p.x * q.x + p.y * q.y + p.z * q.z
set_option maxRecDepth 100000 in
set_option maxHeartbeats 1000000 in
theorem dotV {p q : Pt} (hp : GCr.sP p) (hq : GCr.sP q) (w : World) : RetB Try.prog 30 #[.agg #[.int .i64 p.x, .int .i64 p.y, .int .i64 p.z], .agg #[.int .i64 q.x, .int .i64 q.y, .int .i64 q.z]] w (.agg #[.int .u64 (w8 (dot p q)).a, .int .u64 (w8 (dot p q)).b, .int .u64 (w8 (dot p q)).c, .int .u64 (w8 (dot p q)).d, .int .u64 (w8 (dot p q)).e, .int .u64 (w8 (dot p q)).f, .int .u64 (w8 (dot p q)).g, .int .u64 (w8 (dot p q)).h]) := by
  have O1 := Lib.hid (fun w => GOf.ofV (GCr.c30_63 hp.x) (GCr.c30_63 hp.y) (GCr.c30_63 hp.z) w)
  have O2 := Lib.hid (fun w => GAl.alongC hp.x hp.y hp.z hq w)
  unfold RetB
  go_enter Try.func30, Try.ntmps30
  go_wp2
  have hA : Box (((w.alloc (.cells #[.int .i64 p.x, .int .i64 p.y, .int .i64 p.z] 30)).alloc (.cells #[.int .i64 q.x, .int .i64 q.y, .int .i64 q.z] 30)).alloc (.cells [.int .u64 0, .int .u64 0, .int .u64 0, .int .u64 0, .int .u64 0, .int .u64 0, .int .u64 0, .int .u64 0].toArray 37)) w.heap.size [.int .i64 p.x, .int .i64 p.y, .int .i64 p.z] 30 := ((Box.new rfl).alloc _).alloc _
  have hB : Box (((w.alloc (.cells #[.int .i64 p.x, .int .i64 p.y, .int .i64 p.z] 30)).alloc (.cells #[.int .i64 q.x, .int .i64 q.y, .int .i64 q.z] 30)).alloc (.cells [.int .u64 0, .int .u64 0, .int .u64 0, .int .u64 0, .int .u64 0, .int .u64 0, .int .u64 0, .int .u64 0].toArray 37)) (w.heap.size + 1) [.int .i64 q.x, .int .i64 q.y, .int .i64 q.z] 30 := (Box.new (by simp)).alloc _
  have hR : Box (((w.alloc (.cells #[.int .i64 p.x, .int .i64 p.y, .int .i64 p.z] 30)).alloc (.cells #[.int .i64 q.x, .int .i64 q.y, .int .i64 q.z] 30)).alloc (.cells [.int .u64 0, .int .u64 0, .int .u64 0, .int .u64 0, .int .u64 0, .int .u64 0, .int .u64 0, .int .u64 0].toArray 37)) (w.heap.size + 1 + 1) [.int .u64 0, .int .u64 0, .int .u64 0, .int .u64 0, .int .u64 0, .int .u64 0, .int .u64 0, .int .u64 0] 37 := Box.new (by simp)
  have hW : Below w.heap.size w (((w.alloc (.cells #[.int .i64 p.x, .int .i64 p.y, .int .i64 p.z] 30)).alloc (.cells #[.int .i64 q.x, .int .i64 q.y, .int .i64 q.z] 30)).alloc (.cells [.int .u64 0, .int .u64 0, .int .u64 0, .int .u64 0, .int .u64 0, .int .u64 0, .int .u64 0, .int .u64 0].toArray 37)) := ((((Below.refl _ _).alloc (Nat.le_refl _) _).alloc (by simp) _).alloc (by simp; omega) _)
  revert hA hB hR hW
  generalize (((w.alloc (.cells #[.int .i64 p.x, .int .i64 p.y, .int .i64 p.z] 30)).alloc (.cells #[.int .i64 q.x, .int .i64 q.y, .int .i64 q.z] 30)).alloc (.cells [.int .u64 0, .int .u64 0, .int .u64 0, .int .u64 0, .int .u64 0, .int .u64 0, .int .u64 0, .int .u64 0].toArray 37)) = w2
  intro hA hB hR hW
  have mR := hR.lt
  refine wp_region_ph [(8, .fre [7] [6])] (by kernel_rfl) (by kernel_rfl) ?_
  refine Ph.eagerd [(7, [.int .u64 0, .int .u64 0, .int .u64 0, .int .u64 0, .int .u64 0, .int .u64 0, .int .u64 0, .int .u64 0], 37)] (by rfl) (fun d c a v w h => by cases d <;> exact h) ?_
  simp only [List.drop_succ_cons, List.drop_zero, List.take_succ_cons, List.take_zero, Nat.reduceSub, Nat.sub_zero]
  refine SeqO.row (l := [.int .i64 p.x, .int .i64 p.y, .int .i64 p.z]) (by rfl) (by rfl) hA Try.underlying30 (by rfl) (by kernel_rfl) (by rfl) (by rfl) ?_
  simp only [Act.put, List.setIfInBounds_toArray, List.set_cons_zero, List.set_cons_succ]
  refine SeqO.callv (by rfl) (by rfl) (by rfl) cf46 (by simp [Act.eval]) (fun w1 hS => O1.out w1) ?_
  simp only [Act.put, List.setIfInBounds_toArray, List.set_cons_zero, List.set_cons_succ]
  refine SeqO.row (l := [.int .i64 q.x, .int .i64 q.y, .int .i64 q.z]) (by rfl) (by rfl) hB Try.underlying30 (by rfl) (by kernel_rfl) (by rfl) (by rfl) ?_
  simp only [Act.put, List.setIfInBounds_toArray, List.set_cons_zero, List.set_cons_succ]
  refine SeqO.callv (by rfl) (by rfl) (by rfl) cf45 (by simp [Act.eval]) (fun w1 hS => O2.out w1) ?_
  simp only [Act.put, List.setIfInBounds_toArray, List.set_cons_zero, List.set_cons_succ]
  iterate 2 (refine SeqO.val (v := ?_) (by rfl) (by rfl) (fun w1 hS => ?_) ?_; rotate_left; (· obtain ⟨hc, hcf⟩ := bcell hS; go_simp; try with_reducible rfl); simp only [Act.put, List.setIfInBounds_toArray, List.set_cons_zero, List.set_cons_succ])
  refine SeqO.eager (v := ?_) (by rfl) (by rfl) (fun w1 => ?_) ?_; rotate_left; (· go_simp; try with_reducible rfl); simp only [Act.put, List.setIfInBounds_toArray, List.set_cons_zero, List.set_cons_succ]
  refine SeqO.alloc (cs := [.int .u64 0, .int .u64 0, .int .u64 0, .int .u64 0, .int .u64 0, .int .u64 0, .int .u64 0, .int .u64 0]) (Ty := 37) (by rfl) ⟨37, by simp⟩ (by rfl) (by simp) (by rfl) (fun w => by go_simp) ?_
  refine SeqO.nil fun L u w3 hL hK => ?_
  obtain ⟨g, hg, hge, hbx⟩ := hK.made _ (List.mem_cons_self) (hL 7 (by omega))
  have hS := hK.below
  clear hK hL
  simp only [List.nil_append, List.foldl_cons, List.foldl_nil, hg]
  refine Ph.last ?_
  simp only [List.drop_succ_cons, List.drop_zero, List.take_succ_cons, List.take_zero, Nat.reduceSub, Nat.sub_zero]
  clear hg
  have hR := hR.step hS; have hle := hW.size; have hW := hW.trans (hS.mono hW.size)
  have hP : Box w3 g [.int .u64 0, .int .u64 0, .int .u64 0, .int .u64 0, .int .u64 0, .int .u64 0, .int .u64 0, .int .u64 0] 37 := hbx
  have hge : w2.heap.size ≤ g := hge
  refine wpL_store (cs := [.int .u64 (w8 (dot p q)).a, .int .u64 (w8 (dot p q)).b, .int .u64 (w8 (dot p q)).c, .int .u64 (w8 (dot p q)).d, .int .u64 (w8 (dot p q)).e, .int .u64 (w8 (dot p q)).f, .int .u64 (w8 (dot p q)).g, .int .u64 (w8 (dot p q)).h]) (by rfl) (by rfl) (by rfl) hP (by kernel_rfl) (by rfl) (by simp [Value.oneCell']) (by kernel_rfl) ?_
  have hP := hP.row [.int .u64 (w8 (dot p q)).a, .int .u64 (w8 (dot p q)).b, .int .u64 (w8 (dot p q)).c, .int .u64 (w8 (dot p q)).d, .int .u64 (w8 (dot p q)).e, .int .u64 (w8 (dot p q)).f, .int .u64 (w8 (dot p q)).g, .int .u64 (w8 (dot p q)).h]
  have hR := hR.rowOther (by omega) (g := g) [.int .u64 (w8 (dot p q)).a, .int .u64 (w8 (dot p q)).b, .int .u64 (w8 (dot p q)).c, .int .u64 (w8 (dot p q)).d, .int .u64 (w8 (dot p q)).e, .int .u64 (w8 (dot p q)).f, .int .u64 (w8 (dot p q)).g, .int .u64 (w8 (dot p q)).h].toArray
  have hW := below_setRow hW (g := g) (by omega) [.int .u64 (w8 (dot p q)).a, .int .u64 (w8 (dot p q)).b, .int .u64 (w8 (dot p q)).c, .int .u64 (w8 (dot p q)).d, .int .u64 (w8 (dot p q)).e, .int .u64 (w8 (dot p q)).f, .int .u64 (w8 (dot p q)).g, .int .u64 (w8 (dot p q)).h].toArray
  revert hP hR hW
  generalize w3.setRow g [.int .u64 (w8 (dot p q)).a, .int .u64 (w8 (dot p q)).b, .int .u64 (w8 (dot p q)).c, .int .u64 (w8 (dot p q)).d, .int .u64 (w8 (dot p q)).e, .int .u64 (w8 (dot p q)).f, .int .u64 (w8 (dot p q)).g, .int .u64 (w8 (dot p q)).h].toArray = w4
  intro hP hR hW
  iterate 1 (with_reducible refine wpL_val (v := ?_) ?_ ?_ ?_; rotate_left; (· kernel_rfl); (· go_simp; try with_reducible rfl); conv => arg 5; simp only [Act.put, List.setIfInBounds_toArray, List.set_cons_zero, List.set_cons_succ])
  refine wpList_nil ?_
  iterate 4 go_step
  refine wpL_load (l := [.int .u64 (w8 (dot p q)).a, .int .u64 (w8 (dot p q)).b, .int .u64 (w8 (dot p q)).c, .int .u64 (w8 (dot p q)).d, .int .u64 (w8 (dot p q)).e, .int .u64 (w8 (dot p q)).f, .int .u64 (w8 (dot p q)).g, .int .u64 (w8 (dot p q)).h]) (by rfl) (by rfl) hP Try.underlying37 (by rfl) (by kernel_rfl) (by kernel_rfl) ?_
  conv => arg 5; simp only [Act.put, List.setIfInBounds_toArray, List.set_cons_zero, List.set_cons_succ]
  refine wpL_store (cs := [.int .u64 (w8 (dot p q)).a, .int .u64 (w8 (dot p q)).b, .int .u64 (w8 (dot p q)).c, .int .u64 (w8 (dot p q)).d, .int .u64 (w8 (dot p q)).e, .int .u64 (w8 (dot p q)).f, .int .u64 (w8 (dot p q)).g, .int .u64 (w8 (dot p q)).h]) (by rfl) (by rfl) (by rfl) hR (by kernel_rfl) (by rfl) (by simp [Value.oneCell']) (by kernel_rfl) ?_
  conv => arg 5; simp only [Act.put, List.setIfInBounds_toArray, List.set_cons_zero, List.set_cons_succ]
  have hR := hR.row [.int .u64 (w8 (dot p q)).a, .int .u64 (w8 (dot p q)).b, .int .u64 (w8 (dot p q)).c, .int .u64 (w8 (dot p q)).d, .int .u64 (w8 (dot p q)).e, .int .u64 (w8 (dot p q)).f, .int .u64 (w8 (dot p q)).g, .int .u64 (w8 (dot p q)).h]
  have hW := below_setRow hW (g := w.heap.size + 1 + 1) (by omega) [.int .u64 (w8 (dot p q)).a, .int .u64 (w8 (dot p q)).b, .int .u64 (w8 (dot p q)).c, .int .u64 (w8 (dot p q)).d, .int .u64 (w8 (dot p q)).e, .int .u64 (w8 (dot p q)).f, .int .u64 (w8 (dot p q)).g, .int .u64 (w8 (dot p q)).h].toArray
  refine wpList_nil ?_
  go_wp2
  exact bodyPost_ret (v := .agg #[.int .u64 (w8 (dot p q)).a, .int .u64 (w8 (dot p q)).b, .int .u64 (w8 (dot p q)).c, .int .u64 (w8 (dot p q)).d, .int .u64 (w8 (dot p q)).e, .int .u64 (w8 (dot p q)).f, .int .u64 (w8 (dot p q)).g, .int .u64 (w8 (dot p q)).h]) (results_cell_row Try.results30 _ _ _ _ _ _ _ (by rfl) hR Try.underlying37 (by rfl) (by kernel_rfl)) rfl ⟨rfl, hW⟩
def far (a b : Pt) : Int := dot (PSp.psub a b) (PSp.psub a b)
set_option maxRecDepth 100000 in
set_option maxHeartbeats 1000000 in
theorem farV {a b : Spo} (ha : a.p.ok) (hb : b.p.ok) (w : World) : RetB Try.prog 19 #[.agg #[.int .i64 a.side, .int .i64 a.at_, .int .i64 a.p.x, .int .i64 a.p.y, .int .i64 a.p.z], .agg #[.int .i64 b.side, .int .i64 b.at_, .int .i64 b.p.x, .int .i64 b.p.y, .int .i64 b.p.z]] w (.agg #[.int .u64 (w8 (far a.p b.p)).a, .int .u64 (w8 (far a.p b.p)).b, .int .u64 (w8 (far a.p b.p)).c, .int .u64 (w8 (far a.p b.p)).d, .int .u64 (w8 (far a.p b.p)).e, .int .u64 (w8 (far a.p b.p)).f, .int .u64 (w8 (far a.p b.p)).g, .int .u64 (w8 (far a.p b.p)).h]) := by
  have hd := PSp.psub_sP ha hb
  have O1 := Lib.hid (fun w => PSp.lessC a b ha hb w)
  have O2 := Lib.hid (fun w => dotV hd hd w)
  clear hd
  unfold RetB
  go_enter Try.func19, Try.ntmps19
  go_wp2_with fail
  refine (O1.out _).mono ?_
  rintro e w1 ⟨rfl, hS⟩
  have hR : Box w1 (w.heap.size + 1 + 1) [.int .u64 0, .int .u64 0, .int .u64 0, .int .u64 0, .int .u64 0, .int .u64 0, .int .u64 0, .int .u64 0] 37 := (Box.new (by simp)).step hS
  have hW : Below w.heap.size w w1 := ((((Below.refl _ _).alloc (Nat.le_refl _) _).alloc (by simp) _).alloc (by simp; omega) _).trans (hS.mono (by simp; omega))
  clear hS
  have l0 := hR.lt
  go_wp2_with fail
  refine (O2.out _).mono ?_
  rintro e w2 ⟨rfl, hS⟩
  have hR := (hR.alloc (.cells #[.int .i64 (PSp.psub a.p b.p).x, .int .i64 (PSp.psub a.p b.p).y, .int .i64 (PSp.psub a.p b.p).z] 30)).step hS
  have hW := (hW.alloc hW.size (.cells #[.int .i64 (PSp.psub a.p b.p).x, .int .i64 (PSp.psub a.p b.p).y, .int .i64 (PSp.psub a.p b.p).z] 30)).trans (hS.mono (by have := hW.size; simp; omega))
  clear hS
  have l0 := hR.lt
  have q0 := (hR).cell 0; have q1 := (hR).cell 1; have q2 := (hR).cell 2; have q3 := (hR).cell 3; have q4 := (hR).cell 4; have q5 := (hR).cell 5; have q6 := (hR).cell 6; have q7 := (hR).cell 7; have qf := (hR).free
  simp only [List.getElem?_cons_zero, List.getElem?_cons_succ] at q0 q1 q2 q3 q4 q5 q6 q7
  go_wp2
  exact bodyPost_ret (v := .agg #[.int .u64 (w8 (dot (PSp.psub a.p b.p) (PSp.psub a.p b.p))).a, .int .u64 (w8 (dot (PSp.psub a.p b.p) (PSp.psub a.p b.p))).b, .int .u64 (w8 (dot (PSp.psub a.p b.p) (PSp.psub a.p b.p))).c, .int .u64 (w8 (dot (PSp.psub a.p b.p) (PSp.psub a.p b.p))).d, .int .u64 (w8 (dot (PSp.psub a.p b.p) (PSp.psub a.p b.p))).e, .int .u64 (w8 (dot (PSp.psub a.p b.p) (PSp.psub a.p b.p))).f, .int .u64 (w8 (dot (PSp.psub a.p b.p) (PSp.psub a.p b.p))).g, .int .u64 (w8 (dot (PSp.psub a.p b.p) (PSp.psub a.p b.p))).h]) (by simp [results, Try.results19, go_sem, *]) rfl ⟨rfl, ((((((((hW).setCell (by first | omega | (simp; done) | (simp; omega)) _).setCell (by first | omega | (simp; done) | (simp; omega)) _).setCell (by first | omega | (simp; done) | (simp; omega)) _).setCell (by first | omega | (simp; done) | (simp; omega)) _).setCell (by first | omega | (simp; done) | (simp; omega)) _).setCell (by first | omega | (simp; done) | (simp; omega)) _).setCell (by first | omega | (simp; done) | (simp; omega)) _).setCell (by first | omega | (simp; done) | (simp; omega)) _⟩
end GDot
end Go.Proofs.Ytbbiefgmlklafaa
