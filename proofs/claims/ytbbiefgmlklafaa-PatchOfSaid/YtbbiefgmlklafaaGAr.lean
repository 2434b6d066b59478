/- The square of the vector product of spots' differences: the walk. No condition. -/
import Derived.Test.YtbbiefgmlklafaaGDot
namespace Go.Proofs.Ytbbiefgmlklafaa
set_option linter.unusedVariables false
set_option linter.unusedSimpArgs false
open Go.RowKit Go.NP
namespace GAr
theorem cf33 (args : Array Value) (w1 : World) : (callFunc 33 args).run Try.prog w1 = .ok (.enter 33 args) w1 := enters Try.func33 (by kernel_rfl) (by kernel_rfl) args w1
theorem cf34 (args : Array Value) (w1 : World) : (callFunc 34 args).run Try.prog w1 = .ok (.enter 34 args) w1 := enters Try.func34 (by kernel_rfl) (by kernel_rfl) args w1
theorem cf35 (args : Array Value) (w1 : World) : (callFunc 35 args).run Try.prog w1 = .ok (.enter 35 args) w1 := enters Try.func35 (by kernel_rfl) (by kernel_rfl) args w1
theorem cf36 (args : Array Value) (w1 : World) : (callFunc 36 args).run Try.prog w1 = .ok (.enter 36 args) w1 := enters Try.func36 (by kernel_rfl) (by kernel_rfl) args w1
def c61 (n : Int) : Prop := -2305843009213693952 ≤ n ∧ n ≤ 2305843009213693952
theorem c61_half {n : Int} (h : c61 n) : WidB.half n := by unfold c61 at h; unfold WidB.half; omega
theorem sq_le {n : Int} (h : c61 n) : 0 ≤ n * n ∧ n * n ≤ 5316911983139663491615228241121378304 := by
  have h1 : ((n * n).natAbs : Int) ≤ 5316911983139663491615228241121378304 := by
    rw [Int.natAbs_mul]
    have h1 : (n.natAbs : Int) ≤ 2305843009213693952 := by unfold c61 at h; omega
    have : (n.natAbs : Int) * (n.natAbs : Int) ≤ 2305843009213693952 * 2305843009213693952 := Int.mul_le_mul h1 h1 (by omega) (by decide)
    simpa using this
  have h0 : 0 ≤ n * n := by
    rcases Int.le_total 0 n with h | h
    · exact Int.mul_nonneg h h
    · exact Int.mul_nonneg_of_nonpos_of_nonpos h h
  omega
theorem fit124 {n : Int} (h0 : 0 ≤ n) (h1 : n ≤ 15950735949418990474845684723364134912) : fits n := by
  have e : (2 : Int) ^ 124 = 21267647932558653966460912964485513216 := by decide
  exact ⟨124, by omega, by rw [e]; omega, by rw [e]; omega⟩
/-- The vector product's parts. -/
def cx (p q : Pt) : Int := p.y * q.z - p.z * q.y
def cy (p q : Pt) : Int := p.z * q.x - p.x * q.z
def cz (p q : Pt) : Int := p.x * q.y - p.y * q.x
def area (a b c : Pt) : Int :=
  cx (PSp.psub b a) (PSp.psub c a) * cx (PSp.psub b a) (PSp.psub c a) + cy (PSp.psub b a) (PSp.psub c a) * cy (PSp.psub b a) (PSp.psub c a) + cz (PSp.psub b a) (PSp.psub c a) * cz (PSp.psub b a) (PSp.psub c a)
theorem cx61 {p q : Pt} (hp : GCr.sP p) (hq : GCr.sP q) : c61 (cx p q) := by
  have h1 := GCr.c30_mul hp.y hq.z; have h2 := GCr.c30_mul hp.z hq.y; unfold c61 cx; omega
theorem cy61 {p q : Pt} (hp : GCr.sP p) (hq : GCr.sP q) : c61 (cy p q) := by
  have h1 := GCr.c30_mul hp.z hq.x; have h2 := GCr.c30_mul hp.x hq.z; unfold c61 cy; omega
theorem cz61 {p q : Pt} (hp : GCr.sP p) (hq : GCr.sP q) : c61 (cz p q) := by
  have h1 := GCr.c30_mul hp.x hq.y; have h2 := GCr.c30_mul hp.y hq.x; unfold c61 cz; omega
set_option maxRecDepth 100000 in
set_option maxHeartbeats 1000000 in
theorem areaV {a b c : Spo} (ha : a.p.ok) (hb : b.p.ok) (hc : c.p.ok) (w : World) : RetB Try.prog 21 #[.agg #[.int .i64 a.side, .int .i64 a.at_, .int .i64 a.p.x, .int .i64 a.p.y, .int .i64 a.p.z], .agg #[.int .i64 b.side, .int .i64 b.at_, .int .i64 b.p.x, .int .i64 b.p.y, .int .i64 b.p.z], .agg #[.int .i64 c.side, .int .i64 c.at_, .int .i64 c.p.x, .int .i64 c.p.y, .int .i64 c.p.z]] w (.agg #[.int .u64 (w8 (area a.p b.p c.p)).a, .int .u64 (w8 (area a.p b.p c.p)).b, .int .u64 (w8 (area a.p b.p c.p)).c, .int .u64 (w8 (area a.p b.p c.p)).d, .int .u64 (w8 (area a.p b.p c.p)).e, .int .u64 (w8 (area a.p b.p c.p)).f, .int .u64 (w8 (area a.p b.p c.p)).g, .int .u64 (w8 (area a.p b.p c.p)).h]) := by
  have hu := PSp.psub_sP hb ha; have hv := PSp.psub_sP hc ha
  have O1 := Lib.hid (fun w => PSp.lessC b a hb ha w)
  have O2 := Lib.hid (fun w => PSp.lessC c a hc ha w)
  have O3 := Lib.hid (fun w => GCr.crossV hu hv w)
  have kx := cx61 hu hv; have ky := cy61 hu hv; have kz := cz61 hu hv
  have q1 := sq_le kx; have q2 := sq_le ky; have q3 := sq_le kz
  clear ha hb hc hu hv
  unfold area
  generalize hu : PSp.psub b.p a.p = u at *
  generalize hv : PSp.psub c.p a.p = v at *
  clear hu hv
  unfold RetB
  go_enter Try.func21, Try.ntmps21
  go_wp2
  have hA : Box ((((w.alloc (.cells [.int .i64 a.side, .int .i64 a.at_, .int .i64 a.p.x, .int .i64 a.p.y, .int .i64 a.p.z].toArray 32)).alloc (.cells [.int .i64 b.side, .int .i64 b.at_, .int .i64 b.p.x, .int .i64 b.p.y, .int .i64 b.p.z].toArray 32)).alloc (.cells [.int .i64 c.side, .int .i64 c.at_, .int .i64 c.p.x, .int .i64 c.p.y, .int .i64 c.p.z].toArray 32)).alloc (.cells [.int .u64 0, .int .u64 0, .int .u64 0, .int .u64 0, .int .u64 0, .int .u64 0, .int .u64 0, .int .u64 0].toArray 37)) w.heap.size [.int .i64 a.side, .int .i64 a.at_, .int .i64 a.p.x, .int .i64 a.p.y, .int .i64 a.p.z] 32 := (((Box.new rfl).alloc _).alloc _).alloc _
  have hB : Box ((((w.alloc (.cells [.int .i64 a.side, .int .i64 a.at_, .int .i64 a.p.x, .int .i64 a.p.y, .int .i64 a.p.z].toArray 32)).alloc (.cells [.int .i64 b.side, .int .i64 b.at_, .int .i64 b.p.x, .int .i64 b.p.y, .int .i64 b.p.z].toArray 32)).alloc (.cells [.int .i64 c.side, .int .i64 c.at_, .int .i64 c.p.x, .int .i64 c.p.y, .int .i64 c.p.z].toArray 32)).alloc (.cells [.int .u64 0, .int .u64 0, .int .u64 0, .int .u64 0, .int .u64 0, .int .u64 0, .int .u64 0, .int .u64 0].toArray 37)) (w.heap.size + 1) [.int .i64 b.side, .int .i64 b.at_, .int .i64 b.p.x, .int .i64 b.p.y, .int .i64 b.p.z] 32 := ((Box.new (by simp)).alloc _).alloc _
  have hC : Box ((((w.alloc (.cells [.int .i64 a.side, .int .i64 a.at_, .int .i64 a.p.x, .int .i64 a.p.y, .int .i64 a.p.z].toArray 32)).alloc (.cells [.int .i64 b.side, .int .i64 b.at_, .int .i64 b.p.x, .int .i64 b.p.y, .int .i64 b.p.z].toArray 32)).alloc (.cells [.int .i64 c.side, .int .i64 c.at_, .int .i64 c.p.x, .int .i64 c.p.y, .int .i64 c.p.z].toArray 32)).alloc (.cells [.int .u64 0, .int .u64 0, .int .u64 0, .int .u64 0, .int .u64 0, .int .u64 0, .int .u64 0, .int .u64 0].toArray 37)) (w.heap.size + 1 + 1) [.int .i64 c.side, .int .i64 c.at_, .int .i64 c.p.x, .int .i64 c.p.y, .int .i64 c.p.z] 32 := (Box.new (by simp)).alloc _
  have hR : Box ((((w.alloc (.cells [.int .i64 a.side, .int .i64 a.at_, .int .i64 a.p.x, .int .i64 a.p.y, .int .i64 a.p.z].toArray 32)).alloc (.cells [.int .i64 b.side, .int .i64 b.at_, .int .i64 b.p.x, .int .i64 b.p.y, .int .i64 b.p.z].toArray 32)).alloc (.cells [.int .i64 c.side, .int .i64 c.at_, .int .i64 c.p.x, .int .i64 c.p.y, .int .i64 c.p.z].toArray 32)).alloc (.cells [.int .u64 0, .int .u64 0, .int .u64 0, .int .u64 0, .int .u64 0, .int .u64 0, .int .u64 0, .int .u64 0].toArray 37)) (w.heap.size + 1 + 1 + 1) [.int .u64 0, .int .u64 0, .int .u64 0, .int .u64 0, .int .u64 0, .int .u64 0, .int .u64 0, .int .u64 0] 37 := Box.new (by simp)
  have hW : Below w.heap.size w ((((w.alloc (.cells [.int .i64 a.side, .int .i64 a.at_, .int .i64 a.p.x, .int .i64 a.p.y, .int .i64 a.p.z].toArray 32)).alloc (.cells [.int .i64 b.side, .int .i64 b.at_, .int .i64 b.p.x, .int .i64 b.p.y, .int .i64 b.p.z].toArray 32)).alloc (.cells [.int .i64 c.side, .int .i64 c.at_, .int .i64 c.p.x, .int .i64 c.p.y, .int .i64 c.p.z].toArray 32)).alloc (.cells [.int .u64 0, .int .u64 0, .int .u64 0, .int .u64 0, .int .u64 0, .int .u64 0, .int .u64 0, .int .u64 0].toArray 37)) := (((((Below.refl _ _).alloc (Nat.le_refl _) _).alloc (by simp) _).alloc (by simp; omega) _).alloc (by simp; omega) _)
  revert hA hB hC hR hW
  generalize ((((w.alloc (.cells [.int .i64 a.side, .int .i64 a.at_, .int .i64 a.p.x, .int .i64 a.p.y, .int .i64 a.p.z].toArray 32)).alloc (.cells [.int .i64 b.side, .int .i64 b.at_, .int .i64 b.p.x, .int .i64 b.p.y, .int .i64 b.p.z].toArray 32)).alloc (.cells [.int .i64 c.side, .int .i64 c.at_, .int .i64 c.p.x, .int .i64 c.p.y, .int .i64 c.p.z].toArray 32)).alloc (.cells [.int .u64 0, .int .u64 0, .int .u64 0, .int .u64 0, .int .u64 0, .int .u64 0, .int .u64 0, .int .u64 0].toArray 37)) = w2
  intro hA hB hC hR hW
  have mR := hR.lt
  refine wp_region_ph [(8, .free [7])] (by kernel_rfl) (by kernel_rfl) ?_
  refine Ph.maded [(7, [.int .u64 0, .int .u64 0, .int .u64 0, .int .u64 0, .int .u64 0, .int .u64 0, .int .u64 0, .int .u64 0, .int .u64 0, .int .u64 0, .int .u64 0, .int .u64 0, .int .u64 0, .int .u64 0, .int .u64 0, .int .u64 0, .int .u64 0, .int .u64 0, .int .u64 0, .int .u64 0, .int .u64 0, .int .u64 0, .int .u64 0, .int .u64 0], 64)] (by rfl) ?_
  simp only [List.drop_succ_cons, List.drop_zero, List.take_succ_cons, List.take_zero, Nat.reduceSub, Nat.sub_zero]
  refine SeqO.row (l := [.int .i64 b.side, .int .i64 b.at_, .int .i64 b.p.x, .int .i64 b.p.y, .int .i64 b.p.z]) (by rfl) (by rfl) hB Try.underlying32 (by rfl) (by kernel_rfl) (by rfl) (by rfl) ?_
  simp only [Act.put, List.setIfInBounds_toArray, List.set_cons_zero, List.set_cons_succ]
  refine SeqO.row (l := [.int .i64 a.side, .int .i64 a.at_, .int .i64 a.p.x, .int .i64 a.p.y, .int .i64 a.p.z]) (by rfl) (by rfl) hA Try.underlying32 (by rfl) (by kernel_rfl) (by rfl) (by rfl) ?_
  simp only [Act.put, List.setIfInBounds_toArray, List.set_cons_zero, List.set_cons_succ]
  refine SeqO.callv (by rfl) (by rfl) (by rfl) cf33 (by simp [Act.eval]) (fun w1 hS => O1.out w1) ?_
  simp only [Act.put, List.setIfInBounds_toArray, List.set_cons_zero, List.set_cons_succ]
  refine SeqO.row (l := [.int .i64 c.side, .int .i64 c.at_, .int .i64 c.p.x, .int .i64 c.p.y, .int .i64 c.p.z]) (by rfl) (by rfl) hC Try.underlying32 (by rfl) (by kernel_rfl) (by rfl) (by rfl) ?_
  simp only [Act.put, List.setIfInBounds_toArray, List.set_cons_zero, List.set_cons_succ]
  refine SeqO.row (l := [.int .i64 a.side, .int .i64 a.at_, .int .i64 a.p.x, .int .i64 a.p.y, .int .i64 a.p.z]) (by rfl) (by rfl) hA Try.underlying32 (by rfl) (by kernel_rfl) (by rfl) (by rfl) ?_
  simp only [Act.put, List.setIfInBounds_toArray, List.set_cons_zero, List.set_cons_succ]
  refine SeqO.callv (by rfl) (by rfl) (by rfl) cf33 (by simp [Act.eval]) (fun w1 hS => O2.out w1) ?_
  simp only [Act.put, List.setIfInBounds_toArray, List.set_cons_zero, List.set_cons_succ]
  refine SeqO.callv (by rfl) (by rfl) (by rfl) cf34 (by simp [Act.eval]) (fun w1 hS => O3.out w1) ?_
  simp only [Act.put, List.setIfInBounds_toArray, List.set_cons_zero, List.set_cons_succ]
  refine SeqO.alloc (cs := [.int .u64 0, .int .u64 0, .int .u64 0, .int .u64 0, .int .u64 0, .int .u64 0, .int .u64 0, .int .u64 0, .int .u64 0, .int .u64 0, .int .u64 0, .int .u64 0, .int .u64 0, .int .u64 0, .int .u64 0, .int .u64 0, .int .u64 0, .int .u64 0, .int .u64 0, .int .u64 0, .int .u64 0, .int .u64 0, .int .u64 0, .int .u64 0]) (Ty := 64) (by rfl) ⟨64, by simp⟩ (by rfl) (by simp) (by rfl) (fun w => by go_simp) ?_
  refine SeqO.nil fun L u' w3 hL hK => ?_
  obtain ⟨g, hg, hge, hbx⟩ := hK.made _ (List.mem_cons_self) (hL 7 (by omega))
  have hS := hK.below
  clear hK hL
  simp only [List.nil_append, List.foldl_cons, List.foldl_nil, hg]
  refine Ph.last ?_
  simp only [List.drop_succ_cons, List.drop_zero, List.take_succ_cons, List.take_zero, Nat.reduceSub, Nat.sub_zero]
  clear hg
  have hR := hR.step hS; have hle := hW.size; have hW := hW.trans (hS.mono hW.size)
  have hP : Box w3 g [.int .u64 0, .int .u64 0, .int .u64 0, .int .u64 0, .int .u64 0, .int .u64 0, .int .u64 0, .int .u64 0, .int .u64 0, .int .u64 0, .int .u64 0, .int .u64 0, .int .u64 0, .int .u64 0, .int .u64 0, .int .u64 0, .int .u64 0, .int .u64 0, .int .u64 0, .int .u64 0, .int .u64 0, .int .u64 0, .int .u64 0, .int .u64 0] 64 := hbx
  have hge : w2.heap.size ≤ g := hge
  refine wpL_store (cs := [.int .u64 (w8 (cx u v)).a, .int .u64 (w8 (cx u v)).b, .int .u64 (w8 (cx u v)).c, .int .u64 (w8 (cx u v)).d, .int .u64 (w8 (cx u v)).e, .int .u64 (w8 (cx u v)).f, .int .u64 (w8 (cx u v)).g, .int .u64 (w8 (cx u v)).h, .int .u64 (w8 (cy u v)).a, .int .u64 (w8 (cy u v)).b, .int .u64 (w8 (cy u v)).c, .int .u64 (w8 (cy u v)).d, .int .u64 (w8 (cy u v)).e, .int .u64 (w8 (cy u v)).f, .int .u64 (w8 (cy u v)).g, .int .u64 (w8 (cy u v)).h, .int .u64 (w8 (cz u v)).a, .int .u64 (w8 (cz u v)).b, .int .u64 (w8 (cz u v)).c, .int .u64 (w8 (cz u v)).d, .int .u64 (w8 (cz u v)).e, .int .u64 (w8 (cz u v)).f, .int .u64 (w8 (cz u v)).g, .int .u64 (w8 (cz u v)).h]) (by rfl) (by rfl) (by rfl) hP (by kernel_rfl) (by rfl) (by simp [Value.oneCell']) (by kernel_rfl) ?_
  conv => arg 5; simp only [Act.put, List.setIfInBounds_toArray, List.set_cons_zero, List.set_cons_succ]
  have hP := hP.row [.int .u64 (w8 (cx u v)).a, .int .u64 (w8 (cx u v)).b, .int .u64 (w8 (cx u v)).c, .int .u64 (w8 (cx u v)).d, .int .u64 (w8 (cx u v)).e, .int .u64 (w8 (cx u v)).f, .int .u64 (w8 (cx u v)).g, .int .u64 (w8 (cx u v)).h, .int .u64 (w8 (cy u v)).a, .int .u64 (w8 (cy u v)).b, .int .u64 (w8 (cy u v)).c, .int .u64 (w8 (cy u v)).d, .int .u64 (w8 (cy u v)).e, .int .u64 (w8 (cy u v)).f, .int .u64 (w8 (cy u v)).g, .int .u64 (w8 (cy u v)).h, .int .u64 (w8 (cz u v)).a, .int .u64 (w8 (cz u v)).b, .int .u64 (w8 (cz u v)).c, .int .u64 (w8 (cz u v)).d, .int .u64 (w8 (cz u v)).e, .int .u64 (w8 (cz u v)).f, .int .u64 (w8 (cz u v)).g, .int .u64 (w8 (cz u v)).h]
  have hR := hR.rowOther (by omega) (g := g) [.int .u64 (w8 (cx u v)).a, .int .u64 (w8 (cx u v)).b, .int .u64 (w8 (cx u v)).c, .int .u64 (w8 (cx u v)).d, .int .u64 (w8 (cx u v)).e, .int .u64 (w8 (cx u v)).f, .int .u64 (w8 (cx u v)).g, .int .u64 (w8 (cx u v)).h, .int .u64 (w8 (cy u v)).a, .int .u64 (w8 (cy u v)).b, .int .u64 (w8 (cy u v)).c, .int .u64 (w8 (cy u v)).d, .int .u64 (w8 (cy u v)).e, .int .u64 (w8 (cy u v)).f, .int .u64 (w8 (cy u v)).g, .int .u64 (w8 (cy u v)).h, .int .u64 (w8 (cz u v)).a, .int .u64 (w8 (cz u v)).b, .int .u64 (w8 (cz u v)).c, .int .u64 (w8 (cz u v)).d, .int .u64 (w8 (cz u v)).e, .int .u64 (w8 (cz u v)).f, .int .u64 (w8 (cz u v)).g, .int .u64 (w8 (cz u v)).h].toArray
  have hW := below_setRow hW (g := g) (by omega) [.int .u64 (w8 (cx u v)).a, .int .u64 (w8 (cx u v)).b, .int .u64 (w8 (cx u v)).c, .int .u64 (w8 (cx u v)).d, .int .u64 (w8 (cx u v)).e, .int .u64 (w8 (cx u v)).f, .int .u64 (w8 (cx u v)).g, .int .u64 (w8 (cx u v)).h, .int .u64 (w8 (cy u v)).a, .int .u64 (w8 (cy u v)).b, .int .u64 (w8 (cy u v)).c, .int .u64 (w8 (cy u v)).d, .int .u64 (w8 (cy u v)).e, .int .u64 (w8 (cy u v)).f, .int .u64 (w8 (cy u v)).g, .int .u64 (w8 (cy u v)).h, .int .u64 (w8 (cz u v)).a, .int .u64 (w8 (cz u v)).b, .int .u64 (w8 (cz u v)).c, .int .u64 (w8 (cz u v)).d, .int .u64 (w8 (cz u v)).e, .int .u64 (w8 (cz u v)).f, .int .u64 (w8 (cz u v)).g, .int .u64 (w8 (cz u v)).h].toArray
  revert hP hR hW
  generalize w3.setRow g [.int .u64 (w8 (cx u v)).a, .int .u64 (w8 (cx u v)).b, .int .u64 (w8 (cx u v)).c, .int .u64 (w8 (cx u v)).d, .int .u64 (w8 (cx u v)).e, .int .u64 (w8 (cx u v)).f, .int .u64 (w8 (cx u v)).g, .int .u64 (w8 (cx u v)).h, .int .u64 (w8 (cy u v)).a, .int .u64 (w8 (cy u v)).b, .int .u64 (w8 (cy u v)).c, .int .u64 (w8 (cy u v)).d, .int .u64 (w8 (cy u v)).e, .int .u64 (w8 (cy u v)).f, .int .u64 (w8 (cy u v)).g, .int .u64 (w8 (cy u v)).h, .int .u64 (w8 (cz u v)).a, .int .u64 (w8 (cz u v)).b, .int .u64 (w8 (cz u v)).c, .int .u64 (w8 (cz u v)).d, .int .u64 (w8 (cz u v)).e, .int .u64 (w8 (cz u v)).f, .int .u64 (w8 (cz u v)).g, .int .u64 (w8 (cz u v)).h].toArray = w4
  intro hP hR hW
  clear hA hB hC hS O1 O2 O3 hbx
  have hlp0 := hP.lt
  refine wpList_nil ?_
  iterate 4 go_step
  refine wpL_go (v := .pointer (some ⟨w4.heap.size, 0, none⟩)) (w' := w4.alloc (.cells [.int .u64 0, .int .u64 0, .int .u64 0, .int .u64 0, .int .u64 0, .int .u64 0, .int .u64 0, .int .u64 0].toArray 37)) (by kernel_rfl) (by go_simp) ?_
  conv => arg 5; simp only [Act.put, List.setIfInBounds_toArray, List.set_cons_zero, List.set_cons_succ]
  refine wpList_nil ?_
  have hT : Box (w4.alloc (.cells [.int .u64 0, .int .u64 0, .int .u64 0, .int .u64 0, .int .u64 0, .int .u64 0, .int .u64 0, .int .u64 0].toArray 37)) w4.heap.size [.int .u64 (w8 0).a, .int .u64 (w8 0).b, .int .u64 (w8 0).c, .int .u64 (w8 0).d, .int .u64 (w8 0).e, .int .u64 (w8 0).f, .int .u64 (w8 0).g, .int .u64 (w8 0).h] 37 := (Box.new rfl).cast GAl.ll_zero.symm
  have hP := hP.alloc (.cells [.int .u64 0, .int .u64 0, .int .u64 0, .int .u64 0, .int .u64 0, .int .u64 0, .int .u64 0, .int .u64 0].toArray 37)
  have hR := hR.alloc (.cells [.int .u64 0, .int .u64 0, .int .u64 0, .int .u64 0, .int .u64 0, .int .u64 0, .int .u64 0, .int .u64 0].toArray 37)
  have hle2 := hW.size
  have hlp := hP.lt
  have hW := hW.alloc hW.size (.cells [.int .u64 0, .int .u64 0, .int .u64 0, .int .u64 0, .int .u64 0, .int .u64 0, .int .u64 0, .int .u64 0].toArray 37)
  have hgs : g < w4.heap.size := hlp0
  revert hT hP hR hW
  generalize w4.alloc (.cells [.int .u64 0, .int .u64 0, .int .u64 0, .int .u64 0, .int .u64 0, .int .u64 0, .int .u64 0, .int .u64 0].toArray 37) = w5
  generalize w4.heap.size = gs at *
  intro hT hP hR hW
  iterate 5 go_step
  iterate 1 (with_reducible refine wpL_val (v := ?_) ?_ ?_ ?_; rotate_left; (· kernel_rfl); (· go_simp; try with_reducible rfl); conv => arg 5; simp only [Act.put, List.setIfInBounds_toArray, List.set_cons_zero, List.set_cons_succ])
  refine wpL_part (l := [.int .u64 (w8 (cx u v)).a, .int .u64 (w8 (cx u v)).b, .int .u64 (w8 (cx u v)).c, .int .u64 (w8 (cx u v)).d, .int .u64 (w8 (cx u v)).e, .int .u64 (w8 (cx u v)).f, .int .u64 (w8 (cx u v)).g, .int .u64 (w8 (cx u v)).h]) (by rfl) (by rfl) hP (by rfl) Try.underlying37 (by rfl) (by kernel_rfl) (by kernel_rfl) ?_
  conv => arg 5; simp only [Act.put, List.setIfInBounds_toArray, List.set_cons_zero, List.set_cons_succ]
  iterate 1 (with_reducible refine wpL_val (v := ?_) ?_ ?_ ?_; rotate_left; (· kernel_rfl); (· go_simp; try with_reducible rfl); conv => arg 5; simp only [Act.put, List.setIfInBounds_toArray, List.set_cons_zero, List.set_cons_succ])
  refine wpL_part (l := [.int .u64 (w8 (cy u v)).a, .int .u64 (w8 (cy u v)).b, .int .u64 (w8 (cy u v)).c, .int .u64 (w8 (cy u v)).d, .int .u64 (w8 (cy u v)).e, .int .u64 (w8 (cy u v)).f, .int .u64 (w8 (cy u v)).g, .int .u64 (w8 (cy u v)).h]) (by rfl) (by rfl) hP (by rfl) Try.underlying37 (by rfl) (by kernel_rfl) (by kernel_rfl) ?_
  conv => arg 5; simp only [Act.put, List.setIfInBounds_toArray, List.set_cons_zero, List.set_cons_succ]
  iterate 1 (with_reducible refine wpL_val (v := ?_) ?_ ?_ ?_; rotate_left; (· kernel_rfl); (· go_simp; try with_reducible rfl); conv => arg 5; simp only [Act.put, List.setIfInBounds_toArray, List.set_cons_zero, List.set_cons_succ])
  refine wpL_part (l := [.int .u64 (w8 (cz u v)).a, .int .u64 (w8 (cz u v)).b, .int .u64 (w8 (cz u v)).c, .int .u64 (w8 (cz u v)).d, .int .u64 (w8 (cz u v)).e, .int .u64 (w8 (cz u v)).f, .int .u64 (w8 (cz u v)).g, .int .u64 (w8 (cz u v)).h]) (by rfl) (by rfl) hP (by rfl) Try.underlying37 (by rfl) (by kernel_rfl) (by kernel_rfl) ?_
  conv => arg 5; simp only [Act.put, List.setIfInBounds_toArray, List.set_cons_zero, List.set_cons_succ]
  iterate 2 (with_reducible refine wpL_val (v := ?_) ?_ ?_ ?_; rotate_left; (· kernel_rfl); (· go_simp; try with_reducible rfl); conv => arg 5; simp only [Act.put, List.setIfInBounds_toArray, List.set_cons_zero, List.set_cons_succ])
  refine wpList_nil ?_
  have i0 : ∀ W, (Instr.index 66 (.agg #[.int .u64 (w8 (cx u v)).a, .int .u64 (w8 (cx u v)).b, .int .u64 (w8 (cx u v)).c, .int .u64 (w8 (cx u v)).d, .int .u64 (w8 (cx u v)).e, .int .u64 (w8 (cx u v)).f, .int .u64 (w8 (cx u v)).g, .int .u64 (w8 (cx u v)).h, .int .u64 (w8 (cy u v)).a, .int .u64 (w8 (cy u v)).b, .int .u64 (w8 (cy u v)).c, .int .u64 (w8 (cy u v)).d, .int .u64 (w8 (cy u v)).e, .int .u64 (w8 (cy u v)).f, .int .u64 (w8 (cy u v)).g, .int .u64 (w8 (cy u v)).h, .int .u64 (w8 (cz u v)).a, .int .u64 (w8 (cz u v)).b, .int .u64 (w8 (cz u v)).c, .int .u64 (w8 (cz u v)).d, .int .u64 (w8 (cz u v)).e, .int .u64 (w8 (cz u v)).f, .int .u64 (w8 (cz u v)).g, .int .u64 (w8 (cz u v)).h]) (.int .i64 0)).run Try.prog W = .ok (.agg #[.int .u64 (w8 (cx u v)).a, .int .u64 (w8 (cx u v)).b, .int .u64 (w8 (cx u v)).c, .int .u64 (w8 (cx u v)).d, .int .u64 (w8 (cx u v)).e, .int .u64 (w8 (cx u v)).f, .int .u64 (w8 (cx u v)).g, .int .u64 (w8 (cx u v)).h]) W := fun _ => by kernel_rfl
  have i1 : ∀ W, (Instr.index 66 (.agg #[.int .u64 (w8 (cx u v)).a, .int .u64 (w8 (cx u v)).b, .int .u64 (w8 (cx u v)).c, .int .u64 (w8 (cx u v)).d, .int .u64 (w8 (cx u v)).e, .int .u64 (w8 (cx u v)).f, .int .u64 (w8 (cx u v)).g, .int .u64 (w8 (cx u v)).h, .int .u64 (w8 (cy u v)).a, .int .u64 (w8 (cy u v)).b, .int .u64 (w8 (cy u v)).c, .int .u64 (w8 (cy u v)).d, .int .u64 (w8 (cy u v)).e, .int .u64 (w8 (cy u v)).f, .int .u64 (w8 (cy u v)).g, .int .u64 (w8 (cy u v)).h, .int .u64 (w8 (cz u v)).a, .int .u64 (w8 (cz u v)).b, .int .u64 (w8 (cz u v)).c, .int .u64 (w8 (cz u v)).d, .int .u64 (w8 (cz u v)).e, .int .u64 (w8 (cz u v)).f, .int .u64 (w8 (cz u v)).g, .int .u64 (w8 (cz u v)).h]) (.int .i64 1)).run Try.prog W = .ok (.agg #[.int .u64 (w8 (cy u v)).a, .int .u64 (w8 (cy u v)).b, .int .u64 (w8 (cy u v)).c, .int .u64 (w8 (cy u v)).d, .int .u64 (w8 (cy u v)).e, .int .u64 (w8 (cy u v)).f, .int .u64 (w8 (cy u v)).g, .int .u64 (w8 (cy u v)).h]) W := fun _ => by kernel_rfl
  have i2 : ∀ W, (Instr.index 66 (.agg #[.int .u64 (w8 (cx u v)).a, .int .u64 (w8 (cx u v)).b, .int .u64 (w8 (cx u v)).c, .int .u64 (w8 (cx u v)).d, .int .u64 (w8 (cx u v)).e, .int .u64 (w8 (cx u v)).f, .int .u64 (w8 (cx u v)).g, .int .u64 (w8 (cx u v)).h, .int .u64 (w8 (cy u v)).a, .int .u64 (w8 (cy u v)).b, .int .u64 (w8 (cy u v)).c, .int .u64 (w8 (cy u v)).d, .int .u64 (w8 (cy u v)).e, .int .u64 (w8 (cy u v)).f, .int .u64 (w8 (cy u v)).g, .int .u64 (w8 (cy u v)).h, .int .u64 (w8 (cz u v)).a, .int .u64 (w8 (cz u v)).b, .int .u64 (w8 (cz u v)).c, .int .u64 (w8 (cz u v)).d, .int .u64 (w8 (cz u v)).e, .int .u64 (w8 (cz u v)).f, .int .u64 (w8 (cz u v)).g, .int .u64 (w8 (cz u v)).h]) (.int .i64 2)).run Try.prog W = .ok (.agg #[.int .u64 (w8 (cz u v)).a, .int .u64 (w8 (cz u v)).b, .int .u64 (w8 (cz u v)).c, .int .u64 (w8 (cz u v)).d, .int .u64 (w8 (cz u v)).e, .int .u64 (w8 (cz u v)).f, .int .u64 (w8 (cz u v)).g, .int .u64 (w8 (cz u v)).h]) W := fun _ => by kernel_rfl
  iterate 3 go_step
  refine wp_loop_rounds 4 ?_
  rw [rounds_succ]
  iterate 2 go_step
  iterate 1 (with_reducible refine wpL_val (v := ?_) ?_ ?_ ?_; rotate_left; (· kernel_rfl); (· go_simp; try with_reducible rfl); conv => arg 5; simp only [Act.put, List.setIfInBounds_toArray, List.set_cons_zero, List.set_cons_succ])
  refine wpList_nil ?_
  iterate 11 go_step
  iterate 1 (with_reducible refine wpL_val (v := ?_) ?_ ?_ ?_; rotate_left; (· kernel_rfl); (· go_simp; try with_reducible rfl); conv => arg 5; simp only [Act.put, List.setIfInBounds_toArray, List.set_cons_zero, List.set_cons_succ])
  refine wpL_go (v := .pointer (some ⟨w5.heap.size, 0, none⟩)) (w' := w5.alloc (.cells [.int .u64 0, .int .u64 0, .int .u64 0, .int .u64 0, .int .u64 0, .int .u64 0, .int .u64 0, .int .u64 0].toArray 37)) (by kernel_rfl) (by go_simp) ?_
  conv => arg 5; simp only [Act.put, List.setIfInBounds_toArray, List.set_cons_zero, List.set_cons_succ]
  refine wpL_store (cs := [.int .u64 (w8 (cx u v)).a, .int .u64 (w8 (cx u v)).b, .int .u64 (w8 (cx u v)).c, .int .u64 (w8 (cx u v)).d, .int .u64 (w8 (cx u v)).e, .int .u64 (w8 (cx u v)).f, .int .u64 (w8 (cx u v)).g, .int .u64 (w8 (cx u v)).h]) (by rfl) (by rfl) (by rfl) (Box.new rfl) (by kernel_rfl) (by rfl) (by simp [Value.oneCell']) (by kernel_rfl) ?_
  conv => arg 5; simp only [Act.put, List.setIfInBounds_toArray, List.set_cons_zero, List.set_cons_succ]
  rw [alloc_setRow]
  refine wpList_nil ?_
  have h10 : Box (w5.alloc (.cells [.int .u64 (w8 (cx u v)).a, .int .u64 (w8 (cx u v)).b, .int .u64 (w8 (cx u v)).c, .int .u64 (w8 (cx u v)).d, .int .u64 (w8 (cx u v)).e, .int .u64 (w8 (cx u v)).f, .int .u64 (w8 (cx u v)).g, .int .u64 (w8 (cx u v)).h].toArray 37)) w5.heap.size [.int .u64 (w8 (cx u v)).a, .int .u64 (w8 (cx u v)).b, .int .u64 (w8 (cx u v)).c, .int .u64 (w8 (cx u v)).d, .int .u64 (w8 (cx u v)).e, .int .u64 (w8 (cx u v)).f, .int .u64 (w8 (cx u v)).g, .int .u64 (w8 (cx u v)).h] 37 := Box.new rfl
  have hT := hT.alloc (.cells [.int .u64 (w8 (cx u v)).a, .int .u64 (w8 (cx u v)).b, .int .u64 (w8 (cx u v)).c, .int .u64 (w8 (cx u v)).d, .int .u64 (w8 (cx u v)).e, .int .u64 (w8 (cx u v)).f, .int .u64 (w8 (cx u v)).g, .int .u64 (w8 (cx u v)).h].toArray 37)
  have hR := hR.alloc (.cells [.int .u64 (w8 (cx u v)).a, .int .u64 (w8 (cx u v)).b, .int .u64 (w8 (cx u v)).c, .int .u64 (w8 (cx u v)).d, .int .u64 (w8 (cx u v)).e, .int .u64 (w8 (cx u v)).f, .int .u64 (w8 (cx u v)).g, .int .u64 (w8 (cx u v)).h].toArray 37)
  have hW := hW.alloc hW.size (.cells [.int .u64 (w8 (cx u v)).a, .int .u64 (w8 (cx u v)).b, .int .u64 (w8 (cx u v)).c, .int .u64 (w8 (cx u v)).d, .int .u64 (w8 (cx u v)).e, .int .u64 (w8 (cx u v)).f, .int .u64 (w8 (cx u v)).g, .int .u64 (w8 (cx u v)).h].toArray 37)
  revert h10 hT hR hW
  generalize w5.alloc (.cells [.int .u64 (w8 (cx u v)).a, .int .u64 (w8 (cx u v)).b, .int .u64 (w8 (cx u v)).c, .int .u64 (w8 (cx u v)).d, .int .u64 (w8 (cx u v)).e, .int .u64 (w8 (cx u v)).f, .int .u64 (w8 (cx u v)).g, .int .u64 (w8 (cx u v)).h].toArray 37) = wa
  generalize w5.heap.size = g10
  intro h10 hT hR hW
  iterate 4 go_step
  refine wpL_load (l := [.int .u64 (w8 (cx u v)).a, .int .u64 (w8 (cx u v)).b, .int .u64 (w8 (cx u v)).c, .int .u64 (w8 (cx u v)).d, .int .u64 (w8 (cx u v)).e, .int .u64 (w8 (cx u v)).f, .int .u64 (w8 (cx u v)).g, .int .u64 (w8 (cx u v)).h]) (by rfl) (by rfl) h10 Try.underlying37 (by rfl) (by kernel_rfl) (by kernel_rfl) ?_
  conv => arg 5; simp only [Act.put, List.setIfInBounds_toArray, List.set_cons_zero, List.set_cons_succ]
  refine wpL_load (l := [.int .u64 (w8 (cx u v)).a, .int .u64 (w8 (cx u v)).b, .int .u64 (w8 (cx u v)).c, .int .u64 (w8 (cx u v)).d, .int .u64 (w8 (cx u v)).e, .int .u64 (w8 (cx u v)).f, .int .u64 (w8 (cx u v)).g, .int .u64 (w8 (cx u v)).h]) (by rfl) (by rfl) h10 Try.underlying37 (by rfl) (by kernel_rfl) (by kernel_rfl) ?_
  conv => arg 5; simp only [Act.put, List.setIfInBounds_toArray, List.set_cons_zero, List.set_cons_succ]
  with_reducible refine wpL_call (ca := ?_) (args := ?_) ?_ ?_ cf35 ?_ ?_
  rotate_left 2
  · kernel_rfl
  · rfl
  · simp [Act.eval] <;> rfl
  refine (WidB.mulW (c61_half kx) (c61_half kx) _).mono ?_
  rintro e wb ⟨rfl, hS⟩
  refine ⟨_, rfl, ?_⟩
  conv => arg 5; simp only [Act.put, List.setIfInBounds_toArray, List.set_cons_zero, List.set_cons_succ]
  have hT := hT.step hS; have hR := hR.step hS; have hW := hW.trans (hS.mono hW.size)
  clear hS h10
  iterate 3 (with_reducible refine wpL_val (v := ?_) ?_ ?_ ?_; rotate_left; (· kernel_rfl); (· go_simp; try with_reducible rfl); conv => arg 5; simp only [Act.put, List.setIfInBounds_toArray, List.set_cons_zero, List.set_cons_succ])
  refine wpL_go (v := .pointer (some ⟨wb.heap.size, 0, none⟩)) (w' := wb.alloc (.cells [.int .u64 0, .int .u64 0, .int .u64 0, .int .u64 0, .int .u64 0, .int .u64 0, .int .u64 0, .int .u64 0].toArray 37)) (by kernel_rfl) (by go_simp) ?_
  conv => arg 5; simp only [Act.put, List.setIfInBounds_toArray, List.set_cons_zero, List.set_cons_succ]
  refine wpL_store (cs := [.int .u64 (w8 ((cx u v) * (cx u v))).a, .int .u64 (w8 ((cx u v) * (cx u v))).b, .int .u64 (w8 ((cx u v) * (cx u v))).c, .int .u64 (w8 ((cx u v) * (cx u v))).d, .int .u64 (w8 ((cx u v) * (cx u v))).e, .int .u64 (w8 ((cx u v) * (cx u v))).f, .int .u64 (w8 ((cx u v) * (cx u v))).g, .int .u64 (w8 ((cx u v) * (cx u v))).h]) (by rfl) (by rfl) (by rfl) (Box.new rfl) (by kernel_rfl) (by rfl) (by simp [Value.oneCell']) (by kernel_rfl) ?_
  conv => arg 5; simp only [Act.put, List.setIfInBounds_toArray, List.set_cons_zero, List.set_cons_succ]
  rw [alloc_setRow]
  iterate 1 (with_reducible refine wpL_val (v := ?_) ?_ ?_ ?_; rotate_left; (· kernel_rfl); (· go_simp; try with_reducible rfl); conv => arg 5; simp only [Act.put, List.setIfInBounds_toArray, List.set_cons_zero, List.set_cons_succ])
  refine wpList_nil ?_
  have h11 : Box (wb.alloc (.cells [.int .u64 (w8 ((cx u v) * (cx u v))).a, .int .u64 (w8 ((cx u v) * (cx u v))).b, .int .u64 (w8 ((cx u v) * (cx u v))).c, .int .u64 (w8 ((cx u v) * (cx u v))).d, .int .u64 (w8 ((cx u v) * (cx u v))).e, .int .u64 (w8 ((cx u v) * (cx u v))).f, .int .u64 (w8 ((cx u v) * (cx u v))).g, .int .u64 (w8 ((cx u v) * (cx u v))).h].toArray 37)) wb.heap.size [.int .u64 (w8 ((cx u v) * (cx u v))).a, .int .u64 (w8 ((cx u v) * (cx u v))).b, .int .u64 (w8 ((cx u v) * (cx u v))).c, .int .u64 (w8 ((cx u v) * (cx u v))).d, .int .u64 (w8 ((cx u v) * (cx u v))).e, .int .u64 (w8 ((cx u v) * (cx u v))).f, .int .u64 (w8 ((cx u v) * (cx u v))).g, .int .u64 (w8 ((cx u v) * (cx u v))).h] 37 := Box.new rfl
  have hT := hT.alloc (.cells [.int .u64 (w8 ((cx u v) * (cx u v))).a, .int .u64 (w8 ((cx u v) * (cx u v))).b, .int .u64 (w8 ((cx u v) * (cx u v))).c, .int .u64 (w8 ((cx u v) * (cx u v))).d, .int .u64 (w8 ((cx u v) * (cx u v))).e, .int .u64 (w8 ((cx u v) * (cx u v))).f, .int .u64 (w8 ((cx u v) * (cx u v))).g, .int .u64 (w8 ((cx u v) * (cx u v))).h].toArray 37)
  have hR := hR.alloc (.cells [.int .u64 (w8 ((cx u v) * (cx u v))).a, .int .u64 (w8 ((cx u v) * (cx u v))).b, .int .u64 (w8 ((cx u v) * (cx u v))).c, .int .u64 (w8 ((cx u v) * (cx u v))).d, .int .u64 (w8 ((cx u v) * (cx u v))).e, .int .u64 (w8 ((cx u v) * (cx u v))).f, .int .u64 (w8 ((cx u v) * (cx u v))).g, .int .u64 (w8 ((cx u v) * (cx u v))).h].toArray 37)
  have hW := hW.alloc hW.size (.cells [.int .u64 (w8 ((cx u v) * (cx u v))).a, .int .u64 (w8 ((cx u v) * (cx u v))).b, .int .u64 (w8 ((cx u v) * (cx u v))).c, .int .u64 (w8 ((cx u v) * (cx u v))).d, .int .u64 (w8 ((cx u v) * (cx u v))).e, .int .u64 (w8 ((cx u v) * (cx u v))).f, .int .u64 (w8 ((cx u v) * (cx u v))).g, .int .u64 (w8 ((cx u v) * (cx u v))).h].toArray 37)
  revert h11 hT hR hW
  generalize wb.alloc (.cells [.int .u64 (w8 ((cx u v) * (cx u v))).a, .int .u64 (w8 ((cx u v) * (cx u v))).b, .int .u64 (w8 ((cx u v) * (cx u v))).c, .int .u64 (w8 ((cx u v) * (cx u v))).d, .int .u64 (w8 ((cx u v) * (cx u v))).e, .int .u64 (w8 ((cx u v) * (cx u v))).f, .int .u64 (w8 ((cx u v) * (cx u v))).g, .int .u64 (w8 ((cx u v) * (cx u v))).h].toArray 37) = wc
  generalize wb.heap.size = g11
  intro h11 hT hR hW
  iterate 3 go_step
  refine wpL_load (l := [.int .u64 (w8 (0 : Int)).a, .int .u64 (w8 (0 : Int)).b, .int .u64 (w8 (0 : Int)).c, .int .u64 (w8 (0 : Int)).d, .int .u64 (w8 (0 : Int)).e, .int .u64 (w8 (0 : Int)).f, .int .u64 (w8 (0 : Int)).g, .int .u64 (w8 (0 : Int)).h]) (by rfl) (by rfl) hT Try.underlying37 (by rfl) (by kernel_rfl) (by kernel_rfl) ?_
  conv => arg 5; simp only [Act.put, List.setIfInBounds_toArray, List.set_cons_zero, List.set_cons_succ]
  refine wpL_load (l := [.int .u64 (w8 ((cx u v) * (cx u v))).a, .int .u64 (w8 ((cx u v) * (cx u v))).b, .int .u64 (w8 ((cx u v) * (cx u v))).c, .int .u64 (w8 ((cx u v) * (cx u v))).d, .int .u64 (w8 ((cx u v) * (cx u v))).e, .int .u64 (w8 ((cx u v) * (cx u v))).f, .int .u64 (w8 ((cx u v) * (cx u v))).g, .int .u64 (w8 ((cx u v) * (cx u v))).h]) (by rfl) (by rfl) h11 Try.underlying37 (by rfl) (by kernel_rfl) (by kernel_rfl) ?_
  conv => arg 5; simp only [Act.put, List.setIfInBounds_toArray, List.set_cons_zero, List.set_cons_succ]
  with_reducible refine wpL_call (ca := ?_) (args := ?_) ?_ ?_ cf36 ?_ ?_
  rotate_left 2
  · kernel_rfl
  · rfl
  · simp [Act.eval] <;> rfl
  refine (WidA.addW (fit124 (by omega) (by omega)) (fit124 (by omega) (by omega)) (fit124 (by omega) (by omega)) _).mono ?_
  rintro e wd ⟨rfl, hS⟩
  refine ⟨_, rfl, ?_⟩
  conv => arg 5; simp only [Act.put, List.setIfInBounds_toArray, List.set_cons_zero, List.set_cons_succ]
  have hT := hT.step hS; have hR := hR.step hS; have hW := hW.trans (hS.mono hW.size)
  clear hS h11
  iterate 3 (with_reducible refine wpL_val (v := ?_) ?_ ?_ ?_; rotate_left; (· kernel_rfl); (· go_simp; try with_reducible rfl); conv => arg 5; simp only [Act.put, List.setIfInBounds_toArray, List.set_cons_zero, List.set_cons_succ])
  refine wpL_store (cs := [.int .u64 (w8 (cx u v * cx u v)).a, .int .u64 (w8 (cx u v * cx u v)).b, .int .u64 (w8 (cx u v * cx u v)).c, .int .u64 (w8 (cx u v * cx u v)).d, .int .u64 (w8 (cx u v * cx u v)).e, .int .u64 (w8 (cx u v * cx u v)).f, .int .u64 (w8 (cx u v * cx u v)).g, .int .u64 (w8 (cx u v * cx u v)).h]) (by rfl) (by rfl) (by rfl) hT (by kernel_rfl) (by rfl) (by simp [Value.oneCell']) (by kernel_rfl) ?_
  conv => arg 5; simp only [Act.put, List.setIfInBounds_toArray, List.set_cons_zero, List.set_cons_succ]
  refine wpList_nil ?_
  have hT := hT.row [.int .u64 (w8 (cx u v * cx u v)).a, .int .u64 (w8 (cx u v * cx u v)).b, .int .u64 (w8 (cx u v * cx u v)).c, .int .u64 (w8 (cx u v * cx u v)).d, .int .u64 (w8 (cx u v * cx u v)).e, .int .u64 (w8 (cx u v * cx u v)).f, .int .u64 (w8 (cx u v * cx u v)).g, .int .u64 (w8 (cx u v * cx u v)).h]
  have hR := hR.rowOther (g := gs) (by omega) [.int .u64 (w8 (cx u v * cx u v)).a, .int .u64 (w8 (cx u v * cx u v)).b, .int .u64 (w8 (cx u v * cx u v)).c, .int .u64 (w8 (cx u v * cx u v)).d, .int .u64 (w8 (cx u v * cx u v)).e, .int .u64 (w8 (cx u v * cx u v)).f, .int .u64 (w8 (cx u v * cx u v)).g, .int .u64 (w8 (cx u v * cx u v)).h].toArray
  have hW := below_setRow hW (g := gs) (by omega) [.int .u64 (w8 (cx u v * cx u v)).a, .int .u64 (w8 (cx u v * cx u v)).b, .int .u64 (w8 (cx u v * cx u v)).c, .int .u64 (w8 (cx u v * cx u v)).d, .int .u64 (w8 (cx u v * cx u v)).e, .int .u64 (w8 (cx u v * cx u v)).f, .int .u64 (w8 (cx u v * cx u v)).g, .int .u64 (w8 (cx u v * cx u v)).h].toArray
  revert hT hR hW
  generalize wd.setRow gs [.int .u64 (w8 (cx u v * cx u v)).a, .int .u64 (w8 (cx u v * cx u v)).b, .int .u64 (w8 (cx u v * cx u v)).c, .int .u64 (w8 (cx u v * cx u v)).d, .int .u64 (w8 (cx u v * cx u v)).e, .int .u64 (w8 (cx u v * cx u v)).f, .int .u64 (w8 (cx u v * cx u v)).g, .int .u64 (w8 (cx u v * cx u v)).h].toArray = we
  intro hT hR hW
  iterate 11 go_step
  rw [rounds_succ]
  iterate 2 go_step
  iterate 1 (with_reducible refine wpL_val (v := ?_) ?_ ?_ ?_; rotate_left; (· kernel_rfl); (· go_simp; try with_reducible rfl); conv => arg 5; simp only [Act.put, List.setIfInBounds_toArray, List.set_cons_zero, List.set_cons_succ])
  refine wpList_nil ?_
  iterate 11 go_step
  iterate 1 (with_reducible refine wpL_val (v := ?_) ?_ ?_ ?_; rotate_left; (· kernel_rfl); (· go_simp; try with_reducible rfl); conv => arg 5; simp only [Act.put, List.setIfInBounds_toArray, List.set_cons_zero, List.set_cons_succ])
  refine wpL_go (v := .pointer (some ⟨we.heap.size, 0, none⟩)) (w' := we.alloc (.cells [.int .u64 0, .int .u64 0, .int .u64 0, .int .u64 0, .int .u64 0, .int .u64 0, .int .u64 0, .int .u64 0].toArray 37)) (by kernel_rfl) (by go_simp) ?_
  conv => arg 5; simp only [Act.put, List.setIfInBounds_toArray, List.set_cons_zero, List.set_cons_succ]
  refine wpL_store (cs := [.int .u64 (w8 (cy u v)).a, .int .u64 (w8 (cy u v)).b, .int .u64 (w8 (cy u v)).c, .int .u64 (w8 (cy u v)).d, .int .u64 (w8 (cy u v)).e, .int .u64 (w8 (cy u v)).f, .int .u64 (w8 (cy u v)).g, .int .u64 (w8 (cy u v)).h]) (by rfl) (by rfl) (by rfl) (Box.new rfl) (by kernel_rfl) (by rfl) (by simp [Value.oneCell']) (by kernel_rfl) ?_
  conv => arg 5; simp only [Act.put, List.setIfInBounds_toArray, List.set_cons_zero, List.set_cons_succ]
  rw [alloc_setRow]
  refine wpList_nil ?_
  have h10 : Box (we.alloc (.cells [.int .u64 (w8 (cy u v)).a, .int .u64 (w8 (cy u v)).b, .int .u64 (w8 (cy u v)).c, .int .u64 (w8 (cy u v)).d, .int .u64 (w8 (cy u v)).e, .int .u64 (w8 (cy u v)).f, .int .u64 (w8 (cy u v)).g, .int .u64 (w8 (cy u v)).h].toArray 37)) we.heap.size [.int .u64 (w8 (cy u v)).a, .int .u64 (w8 (cy u v)).b, .int .u64 (w8 (cy u v)).c, .int .u64 (w8 (cy u v)).d, .int .u64 (w8 (cy u v)).e, .int .u64 (w8 (cy u v)).f, .int .u64 (w8 (cy u v)).g, .int .u64 (w8 (cy u v)).h] 37 := Box.new rfl
  have hT := hT.alloc (.cells [.int .u64 (w8 (cy u v)).a, .int .u64 (w8 (cy u v)).b, .int .u64 (w8 (cy u v)).c, .int .u64 (w8 (cy u v)).d, .int .u64 (w8 (cy u v)).e, .int .u64 (w8 (cy u v)).f, .int .u64 (w8 (cy u v)).g, .int .u64 (w8 (cy u v)).h].toArray 37)
  have hR := hR.alloc (.cells [.int .u64 (w8 (cy u v)).a, .int .u64 (w8 (cy u v)).b, .int .u64 (w8 (cy u v)).c, .int .u64 (w8 (cy u v)).d, .int .u64 (w8 (cy u v)).e, .int .u64 (w8 (cy u v)).f, .int .u64 (w8 (cy u v)).g, .int .u64 (w8 (cy u v)).h].toArray 37)
  have hW := hW.alloc hW.size (.cells [.int .u64 (w8 (cy u v)).a, .int .u64 (w8 (cy u v)).b, .int .u64 (w8 (cy u v)).c, .int .u64 (w8 (cy u v)).d, .int .u64 (w8 (cy u v)).e, .int .u64 (w8 (cy u v)).f, .int .u64 (w8 (cy u v)).g, .int .u64 (w8 (cy u v)).h].toArray 37)
  revert h10 hT hR hW
  generalize we.alloc (.cells [.int .u64 (w8 (cy u v)).a, .int .u64 (w8 (cy u v)).b, .int .u64 (w8 (cy u v)).c, .int .u64 (w8 (cy u v)).d, .int .u64 (w8 (cy u v)).e, .int .u64 (w8 (cy u v)).f, .int .u64 (w8 (cy u v)).g, .int .u64 (w8 (cy u v)).h].toArray 37) = wa
  generalize we.heap.size = g10
  intro h10 hT hR hW
  iterate 4 go_step
  refine wpL_load (l := [.int .u64 (w8 (cy u v)).a, .int .u64 (w8 (cy u v)).b, .int .u64 (w8 (cy u v)).c, .int .u64 (w8 (cy u v)).d, .int .u64 (w8 (cy u v)).e, .int .u64 (w8 (cy u v)).f, .int .u64 (w8 (cy u v)).g, .int .u64 (w8 (cy u v)).h]) (by rfl) (by rfl) h10 Try.underlying37 (by rfl) (by kernel_rfl) (by kernel_rfl) ?_
  conv => arg 5; simp only [Act.put, List.setIfInBounds_toArray, List.set_cons_zero, List.set_cons_succ]
  refine wpL_load (l := [.int .u64 (w8 (cy u v)).a, .int .u64 (w8 (cy u v)).b, .int .u64 (w8 (cy u v)).c, .int .u64 (w8 (cy u v)).d, .int .u64 (w8 (cy u v)).e, .int .u64 (w8 (cy u v)).f, .int .u64 (w8 (cy u v)).g, .int .u64 (w8 (cy u v)).h]) (by rfl) (by rfl) h10 Try.underlying37 (by rfl) (by kernel_rfl) (by kernel_rfl) ?_
  conv => arg 5; simp only [Act.put, List.setIfInBounds_toArray, List.set_cons_zero, List.set_cons_succ]
  with_reducible refine wpL_call (ca := ?_) (args := ?_) ?_ ?_ cf35 ?_ ?_
  rotate_left 2
  · kernel_rfl
  · rfl
  · simp [Act.eval] <;> rfl
  refine (WidB.mulW (c61_half ky) (c61_half ky) _).mono ?_
  rintro e wb ⟨rfl, hS⟩
  refine ⟨_, rfl, ?_⟩
  conv => arg 5; simp only [Act.put, List.setIfInBounds_toArray, List.set_cons_zero, List.set_cons_succ]
  have hT := hT.step hS; have hR := hR.step hS; have hW := hW.trans (hS.mono hW.size)
  clear hS h10
  iterate 3 (with_reducible refine wpL_val (v := ?_) ?_ ?_ ?_; rotate_left; (· kernel_rfl); (· go_simp; try with_reducible rfl); conv => arg 5; simp only [Act.put, List.setIfInBounds_toArray, List.set_cons_zero, List.set_cons_succ])
  refine wpL_go (v := .pointer (some ⟨wb.heap.size, 0, none⟩)) (w' := wb.alloc (.cells [.int .u64 0, .int .u64 0, .int .u64 0, .int .u64 0, .int .u64 0, .int .u64 0, .int .u64 0, .int .u64 0].toArray 37)) (by kernel_rfl) (by go_simp) ?_
  conv => arg 5; simp only [Act.put, List.setIfInBounds_toArray, List.set_cons_zero, List.set_cons_succ]
  refine wpL_store (cs := [.int .u64 (w8 ((cy u v) * (cy u v))).a, .int .u64 (w8 ((cy u v) * (cy u v))).b, .int .u64 (w8 ((cy u v) * (cy u v))).c, .int .u64 (w8 ((cy u v) * (cy u v))).d, .int .u64 (w8 ((cy u v) * (cy u v))).e, .int .u64 (w8 ((cy u v) * (cy u v))).f, .int .u64 (w8 ((cy u v) * (cy u v))).g, .int .u64 (w8 ((cy u v) * (cy u v))).h]) (by rfl) (by rfl) (by rfl) (Box.new rfl) (by kernel_rfl) (by rfl) (by simp [Value.oneCell']) (by kernel_rfl) ?_
  conv => arg 5; simp only [Act.put, List.setIfInBounds_toArray, List.set_cons_zero, List.set_cons_succ]
  rw [alloc_setRow]
  iterate 1 (with_reducible refine wpL_val (v := ?_) ?_ ?_ ?_; rotate_left; (· kernel_rfl); (· go_simp; try with_reducible rfl); conv => arg 5; simp only [Act.put, List.setIfInBounds_toArray, List.set_cons_zero, List.set_cons_succ])
  refine wpList_nil ?_
  have h11 : Box (wb.alloc (.cells [.int .u64 (w8 ((cy u v) * (cy u v))).a, .int .u64 (w8 ((cy u v) * (cy u v))).b, .int .u64 (w8 ((cy u v) * (cy u v))).c, .int .u64 (w8 ((cy u v) * (cy u v))).d, .int .u64 (w8 ((cy u v) * (cy u v))).e, .int .u64 (w8 ((cy u v) * (cy u v))).f, .int .u64 (w8 ((cy u v) * (cy u v))).g, .int .u64 (w8 ((cy u v) * (cy u v))).h].toArray 37)) wb.heap.size [.int .u64 (w8 ((cy u v) * (cy u v))).a, .int .u64 (w8 ((cy u v) * (cy u v))).b, .int .u64 (w8 ((cy u v) * (cy u v))).c, .int .u64 (w8 ((cy u v) * (cy u v))).d, .int .u64 (w8 ((cy u v) * (cy u v))).e, .int .u64 (w8 ((cy u v) * (cy u v))).f, .int .u64 (w8 ((cy u v) * (cy u v))).g, .int .u64 (w8 ((cy u v) * (cy u v))).h] 37 := Box.new rfl
  have hT := hT.alloc (.cells [.int .u64 (w8 ((cy u v) * (cy u v))).a, .int .u64 (w8 ((cy u v) * (cy u v))).b, .int .u64 (w8 ((cy u v) * (cy u v))).c, .int .u64 (w8 ((cy u v) * (cy u v))).d, .int .u64 (w8 ((cy u v) * (cy u v))).e, .int .u64 (w8 ((cy u v) * (cy u v))).f, .int .u64 (w8 ((cy u v) * (cy u v))).g, .int .u64 (w8 ((cy u v) * (cy u v))).h].toArray 37)
  have hR := hR.alloc (.cells [.int .u64 (w8 ((cy u v) * (cy u v))).a, .int .u64 (w8 ((cy u v) * (cy u v))).b, .int .u64 (w8 ((cy u v) * (cy u v))).c, .int .u64 (w8 ((cy u v) * (cy u v))).d, .int .u64 (w8 ((cy u v) * (cy u v))).e, .int .u64 (w8 ((cy u v) * (cy u v))).f, .int .u64 (w8 ((cy u v) * (cy u v))).g, .int .u64 (w8 ((cy u v) * (cy u v))).h].toArray 37)
  have hW := hW.alloc hW.size (.cells [.int .u64 (w8 ((cy u v) * (cy u v))).a, .int .u64 (w8 ((cy u v) * (cy u v))).b, .int .u64 (w8 ((cy u v) * (cy u v))).c, .int .u64 (w8 ((cy u v) * (cy u v))).d, .int .u64 (w8 ((cy u v) * (cy u v))).e, .int .u64 (w8 ((cy u v) * (cy u v))).f, .int .u64 (w8 ((cy u v) * (cy u v))).g, .int .u64 (w8 ((cy u v) * (cy u v))).h].toArray 37)
  revert h11 hT hR hW
  generalize wb.alloc (.cells [.int .u64 (w8 ((cy u v) * (cy u v))).a, .int .u64 (w8 ((cy u v) * (cy u v))).b, .int .u64 (w8 ((cy u v) * (cy u v))).c, .int .u64 (w8 ((cy u v) * (cy u v))).d, .int .u64 (w8 ((cy u v) * (cy u v))).e, .int .u64 (w8 ((cy u v) * (cy u v))).f, .int .u64 (w8 ((cy u v) * (cy u v))).g, .int .u64 (w8 ((cy u v) * (cy u v))).h].toArray 37) = wc
  generalize wb.heap.size = g11
  intro h11 hT hR hW
  iterate 3 go_step
  refine wpL_load (l := [.int .u64 (w8 (cx u v * cx u v)).a, .int .u64 (w8 (cx u v * cx u v)).b, .int .u64 (w8 (cx u v * cx u v)).c, .int .u64 (w8 (cx u v * cx u v)).d, .int .u64 (w8 (cx u v * cx u v)).e, .int .u64 (w8 (cx u v * cx u v)).f, .int .u64 (w8 (cx u v * cx u v)).g, .int .u64 (w8 (cx u v * cx u v)).h]) (by rfl) (by rfl) hT Try.underlying37 (by rfl) (by kernel_rfl) (by kernel_rfl) ?_
  conv => arg 5; simp only [Act.put, List.setIfInBounds_toArray, List.set_cons_zero, List.set_cons_succ]
  refine wpL_load (l := [.int .u64 (w8 ((cy u v) * (cy u v))).a, .int .u64 (w8 ((cy u v) * (cy u v))).b, .int .u64 (w8 ((cy u v) * (cy u v))).c, .int .u64 (w8 ((cy u v) * (cy u v))).d, .int .u64 (w8 ((cy u v) * (cy u v))).e, .int .u64 (w8 ((cy u v) * (cy u v))).f, .int .u64 (w8 ((cy u v) * (cy u v))).g, .int .u64 (w8 ((cy u v) * (cy u v))).h]) (by rfl) (by rfl) h11 Try.underlying37 (by rfl) (by kernel_rfl) (by kernel_rfl) ?_
  conv => arg 5; simp only [Act.put, List.setIfInBounds_toArray, List.set_cons_zero, List.set_cons_succ]
  with_reducible refine wpL_call (ca := ?_) (args := ?_) ?_ ?_ cf36 ?_ ?_
  rotate_left 2
  · kernel_rfl
  · rfl
  · simp [Act.eval] <;> rfl
  refine (WidA.addW (fit124 (by omega) (by omega)) (fit124 (by omega) (by omega)) (fit124 (by omega) (by omega)) _).mono ?_
  rintro e wd ⟨rfl, hS⟩
  refine ⟨_, rfl, ?_⟩
  conv => arg 5; simp only [Act.put, List.setIfInBounds_toArray, List.set_cons_zero, List.set_cons_succ]
  have hT := hT.step hS; have hR := hR.step hS; have hW := hW.trans (hS.mono hW.size)
  clear hS h11
  iterate 3 (with_reducible refine wpL_val (v := ?_) ?_ ?_ ?_; rotate_left; (· kernel_rfl); (· go_simp; try with_reducible rfl); conv => arg 5; simp only [Act.put, List.setIfInBounds_toArray, List.set_cons_zero, List.set_cons_succ])
  refine wpL_store (cs := [.int .u64 (w8 (cx u v * cx u v + cy u v * cy u v)).a, .int .u64 (w8 (cx u v * cx u v + cy u v * cy u v)).b, .int .u64 (w8 (cx u v * cx u v + cy u v * cy u v)).c, .int .u64 (w8 (cx u v * cx u v + cy u v * cy u v)).d, .int .u64 (w8 (cx u v * cx u v + cy u v * cy u v)).e, .int .u64 (w8 (cx u v * cx u v + cy u v * cy u v)).f, .int .u64 (w8 (cx u v * cx u v + cy u v * cy u v)).g, .int .u64 (w8 (cx u v * cx u v + cy u v * cy u v)).h]) (by rfl) (by rfl) (by rfl) hT (by kernel_rfl) (by rfl) (by simp [Value.oneCell']) (by kernel_rfl) ?_
  conv => arg 5; simp only [Act.put, List.setIfInBounds_toArray, List.set_cons_zero, List.set_cons_succ]
  refine wpList_nil ?_
  have hT := hT.row [.int .u64 (w8 (cx u v * cx u v + cy u v * cy u v)).a, .int .u64 (w8 (cx u v * cx u v + cy u v * cy u v)).b, .int .u64 (w8 (cx u v * cx u v + cy u v * cy u v)).c, .int .u64 (w8 (cx u v * cx u v + cy u v * cy u v)).d, .int .u64 (w8 (cx u v * cx u v + cy u v * cy u v)).e, .int .u64 (w8 (cx u v * cx u v + cy u v * cy u v)).f, .int .u64 (w8 (cx u v * cx u v + cy u v * cy u v)).g, .int .u64 (w8 (cx u v * cx u v + cy u v * cy u v)).h]
  have hR := hR.rowOther (g := gs) (by omega) [.int .u64 (w8 (cx u v * cx u v + cy u v * cy u v)).a, .int .u64 (w8 (cx u v * cx u v + cy u v * cy u v)).b, .int .u64 (w8 (cx u v * cx u v + cy u v * cy u v)).c, .int .u64 (w8 (cx u v * cx u v + cy u v * cy u v)).d, .int .u64 (w8 (cx u v * cx u v + cy u v * cy u v)).e, .int .u64 (w8 (cx u v * cx u v + cy u v * cy u v)).f, .int .u64 (w8 (cx u v * cx u v + cy u v * cy u v)).g, .int .u64 (w8 (cx u v * cx u v + cy u v * cy u v)).h].toArray
  have hW := below_setRow hW (g := gs) (by omega) [.int .u64 (w8 (cx u v * cx u v + cy u v * cy u v)).a, .int .u64 (w8 (cx u v * cx u v + cy u v * cy u v)).b, .int .u64 (w8 (cx u v * cx u v + cy u v * cy u v)).c, .int .u64 (w8 (cx u v * cx u v + cy u v * cy u v)).d, .int .u64 (w8 (cx u v * cx u v + cy u v * cy u v)).e, .int .u64 (w8 (cx u v * cx u v + cy u v * cy u v)).f, .int .u64 (w8 (cx u v * cx u v + cy u v * cy u v)).g, .int .u64 (w8 (cx u v * cx u v + cy u v * cy u v)).h].toArray
  revert hT hR hW
  generalize wd.setRow gs [.int .u64 (w8 (cx u v * cx u v + cy u v * cy u v)).a, .int .u64 (w8 (cx u v * cx u v + cy u v * cy u v)).b, .int .u64 (w8 (cx u v * cx u v + cy u v * cy u v)).c, .int .u64 (w8 (cx u v * cx u v + cy u v * cy u v)).d, .int .u64 (w8 (cx u v * cx u v + cy u v * cy u v)).e, .int .u64 (w8 (cx u v * cx u v + cy u v * cy u v)).f, .int .u64 (w8 (cx u v * cx u v + cy u v * cy u v)).g, .int .u64 (w8 (cx u v * cx u v + cy u v * cy u v)).h].toArray = we
  intro hT hR hW
  iterate 11 go_step
  rw [rounds_succ]
  iterate 2 go_step
  iterate 1 (with_reducible refine wpL_val (v := ?_) ?_ ?_ ?_; rotate_left; (· kernel_rfl); (· go_simp; try with_reducible rfl); conv => arg 5; simp only [Act.put, List.setIfInBounds_toArray, List.set_cons_zero, List.set_cons_succ])
  refine wpList_nil ?_
  iterate 11 go_step
  iterate 1 (with_reducible refine wpL_val (v := ?_) ?_ ?_ ?_; rotate_left; (· kernel_rfl); (· go_simp; try with_reducible rfl); conv => arg 5; simp only [Act.put, List.setIfInBounds_toArray, List.set_cons_zero, List.set_cons_succ])
  refine wpL_go (v := .pointer (some ⟨we.heap.size, 0, none⟩)) (w' := we.alloc (.cells [.int .u64 0, .int .u64 0, .int .u64 0, .int .u64 0, .int .u64 0, .int .u64 0, .int .u64 0, .int .u64 0].toArray 37)) (by kernel_rfl) (by go_simp) ?_
  conv => arg 5; simp only [Act.put, List.setIfInBounds_toArray, List.set_cons_zero, List.set_cons_succ]
  refine wpL_store (cs := [.int .u64 (w8 (cz u v)).a, .int .u64 (w8 (cz u v)).b, .int .u64 (w8 (cz u v)).c, .int .u64 (w8 (cz u v)).d, .int .u64 (w8 (cz u v)).e, .int .u64 (w8 (cz u v)).f, .int .u64 (w8 (cz u v)).g, .int .u64 (w8 (cz u v)).h]) (by rfl) (by rfl) (by rfl) (Box.new rfl) (by kernel_rfl) (by rfl) (by simp [Value.oneCell']) (by kernel_rfl) ?_
  conv => arg 5; simp only [Act.put, List.setIfInBounds_toArray, List.set_cons_zero, List.set_cons_succ]
  rw [alloc_setRow]
  refine wpList_nil ?_
  have h10 : Box (we.alloc (.cells [.int .u64 (w8 (cz u v)).a, .int .u64 (w8 (cz u v)).b, .int .u64 (w8 (cz u v)).c, .int .u64 (w8 (cz u v)).d, .int .u64 (w8 (cz u v)).e, .int .u64 (w8 (cz u v)).f, .int .u64 (w8 (cz u v)).g, .int .u64 (w8 (cz u v)).h].toArray 37)) we.heap.size [.int .u64 (w8 (cz u v)).a, .int .u64 (w8 (cz u v)).b, .int .u64 (w8 (cz u v)).c, .int .u64 (w8 (cz u v)).d, .int .u64 (w8 (cz u v)).e, .int .u64 (w8 (cz u v)).f, .int .u64 (w8 (cz u v)).g, .int .u64 (w8 (cz u v)).h] 37 := Box.new rfl
  have hT := hT.alloc (.cells [.int .u64 (w8 (cz u v)).a, .int .u64 (w8 (cz u v)).b, .int .u64 (w8 (cz u v)).c, .int .u64 (w8 (cz u v)).d, .int .u64 (w8 (cz u v)).e, .int .u64 (w8 (cz u v)).f, .int .u64 (w8 (cz u v)).g, .int .u64 (w8 (cz u v)).h].toArray 37)
  have hR := hR.alloc (.cells [.int .u64 (w8 (cz u v)).a, .int .u64 (w8 (cz u v)).b, .int .u64 (w8 (cz u v)).c, .int .u64 (w8 (cz u v)).d, .int .u64 (w8 (cz u v)).e, .int .u64 (w8 (cz u v)).f, .int .u64 (w8 (cz u v)).g, .int .u64 (w8 (cz u v)).h].toArray 37)
  have hW := hW.alloc hW.size (.cells [.int .u64 (w8 (cz u v)).a, .int .u64 (w8 (cz u v)).b, .int .u64 (w8 (cz u v)).c, .int .u64 (w8 (cz u v)).d, .int .u64 (w8 (cz u v)).e, .int .u64 (w8 (cz u v)).f, .int .u64 (w8 (cz u v)).g, .int .u64 (w8 (cz u v)).h].toArray 37)
  revert h10 hT hR hW
  generalize we.alloc (.cells [.int .u64 (w8 (cz u v)).a, .int .u64 (w8 (cz u v)).b, .int .u64 (w8 (cz u v)).c, .int .u64 (w8 (cz u v)).d, .int .u64 (w8 (cz u v)).e, .int .u64 (w8 (cz u v)).f, .int .u64 (w8 (cz u v)).g, .int .u64 (w8 (cz u v)).h].toArray 37) = wa
  generalize we.heap.size = g10
  intro h10 hT hR hW
  iterate 4 go_step
  refine wpL_load (l := [.int .u64 (w8 (cz u v)).a, .int .u64 (w8 (cz u v)).b, .int .u64 (w8 (cz u v)).c, .int .u64 (w8 (cz u v)).d, .int .u64 (w8 (cz u v)).e, .int .u64 (w8 (cz u v)).f, .int .u64 (w8 (cz u v)).g, .int .u64 (w8 (cz u v)).h]) (by rfl) (by rfl) h10 Try.underlying37 (by rfl) (by kernel_rfl) (by kernel_rfl) ?_
  conv => arg 5; simp only [Act.put, List.setIfInBounds_toArray, List.set_cons_zero, List.set_cons_succ]
  refine wpL_load (l := [.int .u64 (w8 (cz u v)).a, .int .u64 (w8 (cz u v)).b, .int .u64 (w8 (cz u v)).c, .int .u64 (w8 (cz u v)).d, .int .u64 (w8 (cz u v)).e, .int .u64 (w8 (cz u v)).f, .int .u64 (w8 (cz u v)).g, .int .u64 (w8 (cz u v)).h]) (by rfl) (by rfl) h10 Try.underlying37 (by rfl) (by kernel_rfl) (by kernel_rfl) ?_
  conv => arg 5; simp only [Act.put, List.setIfInBounds_toArray, List.set_cons_zero, List.set_cons_succ]
  with_reducible refine wpL_call (ca := ?_) (args := ?_) ?_ ?_ cf35 ?_ ?_
  rotate_left 2
  · kernel_rfl
  · rfl
  · simp [Act.eval] <;> rfl
  refine (WidB.mulW (c61_half kz) (c61_half kz) _).mono ?_
  rintro e wb ⟨rfl, hS⟩
  refine ⟨_, rfl, ?_⟩
  conv => arg 5; simp only [Act.put, List.setIfInBounds_toArray, List.set_cons_zero, List.set_cons_succ]
  have hT := hT.step hS; have hR := hR.step hS; have hW := hW.trans (hS.mono hW.size)
  clear hS h10
  iterate 3 (with_reducible refine wpL_val (v := ?_) ?_ ?_ ?_; rotate_left; (· kernel_rfl); (· go_simp; try with_reducible rfl); conv => arg 5; simp only [Act.put, List.setIfInBounds_toArray, List.set_cons_zero, List.set_cons_succ])
  refine wpL_go (v := .pointer (some ⟨wb.heap.size, 0, none⟩)) (w' := wb.alloc (.cells [.int .u64 0, .int .u64 0, .int .u64 0, .int .u64 0, .int .u64 0, .int .u64 0, .int .u64 0, .int .u64 0].toArray 37)) (by kernel_rfl) (by go_simp) ?_
  conv => arg 5; simp only [Act.put, List.setIfInBounds_toArray, List.set_cons_zero, List.set_cons_succ]
  refine wpL_store (cs := [.int .u64 (w8 ((cz u v) * (cz u v))).a, .int .u64 (w8 ((cz u v) * (cz u v))).b, .int .u64 (w8 ((cz u v) * (cz u v))).c, .int .u64 (w8 ((cz u v) * (cz u v))).d, .int .u64 (w8 ((cz u v) * (cz u v))).e, .int .u64 (w8 ((cz u v) * (cz u v))).f, .int .u64 (w8 ((cz u v) * (cz u v))).g, .int .u64 (w8 ((cz u v) * (cz u v))).h]) (by rfl) (by rfl) (by rfl) (Box.new rfl) (by kernel_rfl) (by rfl) (by simp [Value.oneCell']) (by kernel_rfl) ?_
  conv => arg 5; simp only [Act.put, List.setIfInBounds_toArray, List.set_cons_zero, List.set_cons_succ]
  rw [alloc_setRow]
  iterate 1 (with_reducible refine wpL_val (v := ?_) ?_ ?_ ?_; rotate_left; (· kernel_rfl); (· go_simp; try with_reducible rfl); conv => arg 5; simp only [Act.put, List.setIfInBounds_toArray, List.set_cons_zero, List.set_cons_succ])
  refine wpList_nil ?_
  have h11 : Box (wb.alloc (.cells [.int .u64 (w8 ((cz u v) * (cz u v))).a, .int .u64 (w8 ((cz u v) * (cz u v))).b, .int .u64 (w8 ((cz u v) * (cz u v))).c, .int .u64 (w8 ((cz u v) * (cz u v))).d, .int .u64 (w8 ((cz u v) * (cz u v))).e, .int .u64 (w8 ((cz u v) * (cz u v))).f, .int .u64 (w8 ((cz u v) * (cz u v))).g, .int .u64 (w8 ((cz u v) * (cz u v))).h].toArray 37)) wb.heap.size [.int .u64 (w8 ((cz u v) * (cz u v))).a, .int .u64 (w8 ((cz u v) * (cz u v))).b, .int .u64 (w8 ((cz u v) * (cz u v))).c, .int .u64 (w8 ((cz u v) * (cz u v))).d, .int .u64 (w8 ((cz u v) * (cz u v))).e, .int .u64 (w8 ((cz u v) * (cz u v))).f, .int .u64 (w8 ((cz u v) * (cz u v))).g, .int .u64 (w8 ((cz u v) * (cz u v))).h] 37 := Box.new rfl
  have hT := hT.alloc (.cells [.int .u64 (w8 ((cz u v) * (cz u v))).a, .int .u64 (w8 ((cz u v) * (cz u v))).b, .int .u64 (w8 ((cz u v) * (cz u v))).c, .int .u64 (w8 ((cz u v) * (cz u v))).d, .int .u64 (w8 ((cz u v) * (cz u v))).e, .int .u64 (w8 ((cz u v) * (cz u v))).f, .int .u64 (w8 ((cz u v) * (cz u v))).g, .int .u64 (w8 ((cz u v) * (cz u v))).h].toArray 37)
  have hR := hR.alloc (.cells [.int .u64 (w8 ((cz u v) * (cz u v))).a, .int .u64 (w8 ((cz u v) * (cz u v))).b, .int .u64 (w8 ((cz u v) * (cz u v))).c, .int .u64 (w8 ((cz u v) * (cz u v))).d, .int .u64 (w8 ((cz u v) * (cz u v))).e, .int .u64 (w8 ((cz u v) * (cz u v))).f, .int .u64 (w8 ((cz u v) * (cz u v))).g, .int .u64 (w8 ((cz u v) * (cz u v))).h].toArray 37)
  have hW := hW.alloc hW.size (.cells [.int .u64 (w8 ((cz u v) * (cz u v))).a, .int .u64 (w8 ((cz u v) * (cz u v))).b, .int .u64 (w8 ((cz u v) * (cz u v))).c, .int .u64 (w8 ((cz u v) * (cz u v))).d, .int .u64 (w8 ((cz u v) * (cz u v))).e, .int .u64 (w8 ((cz u v) * (cz u v))).f, .int .u64 (w8 ((cz u v) * (cz u v))).g, .int .u64 (w8 ((cz u v) * (cz u v))).h].toArray 37)
  revert h11 hT hR hW
  generalize wb.alloc (.cells [.int .u64 (w8 ((cz u v) * (cz u v))).a, .int .u64 (w8 ((cz u v) * (cz u v))).b, .int .u64 (w8 ((cz u v) * (cz u v))).c, .int .u64 (w8 ((cz u v) * (cz u v))).d, .int .u64 (w8 ((cz u v) * (cz u v))).e, .int .u64 (w8 ((cz u v) * (cz u v))).f, .int .u64 (w8 ((cz u v) * (cz u v))).g, .int .u64 (w8 ((cz u v) * (cz u v))).h].toArray 37) = wc
  generalize wb.heap.size = g11
  intro h11 hT hR hW
  iterate 3 go_step
  refine wpL_load (l := [.int .u64 (w8 (cx u v * cx u v + cy u v * cy u v)).a, .int .u64 (w8 (cx u v * cx u v + cy u v * cy u v)).b, .int .u64 (w8 (cx u v * cx u v + cy u v * cy u v)).c, .int .u64 (w8 (cx u v * cx u v + cy u v * cy u v)).d, .int .u64 (w8 (cx u v * cx u v + cy u v * cy u v)).e, .int .u64 (w8 (cx u v * cx u v + cy u v * cy u v)).f, .int .u64 (w8 (cx u v * cx u v + cy u v * cy u v)).g, .int .u64 (w8 (cx u v * cx u v + cy u v * cy u v)).h]) (by rfl) (by rfl) hT Try.underlying37 (by rfl) (by kernel_rfl) (by kernel_rfl) ?_
  conv => arg 5; simp only [Act.put, List.setIfInBounds_toArray, List.set_cons_zero, List.set_cons_succ]
  refine wpL_load (l := [.int .u64 (w8 ((cz u v) * (cz u v))).a, .int .u64 (w8 ((cz u v) * (cz u v))).b, .int .u64 (w8 ((cz u v) * (cz u v))).c, .int .u64 (w8 ((cz u v) * (cz u v))).d, .int .u64 (w8 ((cz u v) * (cz u v))).e, .int .u64 (w8 ((cz u v) * (cz u v))).f, .int .u64 (w8 ((cz u v) * (cz u v))).g, .int .u64 (w8 ((cz u v) * (cz u v))).h]) (by rfl) (by rfl) h11 Try.underlying37 (by rfl) (by kernel_rfl) (by kernel_rfl) ?_
  conv => arg 5; simp only [Act.put, List.setIfInBounds_toArray, List.set_cons_zero, List.set_cons_succ]
  with_reducible refine wpL_call (ca := ?_) (args := ?_) ?_ ?_ cf36 ?_ ?_
  rotate_left 2
  · kernel_rfl
  · rfl
  · simp [Act.eval] <;> rfl
  refine (WidA.addW (fit124 (by omega) (by omega)) (fit124 (by omega) (by omega)) (fit124 (by omega) (by omega)) _).mono ?_
  rintro e wd ⟨rfl, hS⟩
  refine ⟨_, rfl, ?_⟩
  conv => arg 5; simp only [Act.put, List.setIfInBounds_toArray, List.set_cons_zero, List.set_cons_succ]
  have hT := hT.step hS; have hR := hR.step hS; have hW := hW.trans (hS.mono hW.size)
  clear hS h11
  iterate 3 (with_reducible refine wpL_val (v := ?_) ?_ ?_ ?_; rotate_left; (· kernel_rfl); (· go_simp; try with_reducible rfl); conv => arg 5; simp only [Act.put, List.setIfInBounds_toArray, List.set_cons_zero, List.set_cons_succ])
  refine wpL_store (cs := [.int .u64 (w8 (cx u v * cx u v + cy u v * cy u v + cz u v * cz u v)).a, .int .u64 (w8 (cx u v * cx u v + cy u v * cy u v + cz u v * cz u v)).b, .int .u64 (w8 (cx u v * cx u v + cy u v * cy u v + cz u v * cz u v)).c, .int .u64 (w8 (cx u v * cx u v + cy u v * cy u v + cz u v * cz u v)).d, .int .u64 (w8 (cx u v * cx u v + cy u v * cy u v + cz u v * cz u v)).e, .int .u64 (w8 (cx u v * cx u v + cy u v * cy u v + cz u v * cz u v)).f, .int .u64 (w8 (cx u v * cx u v + cy u v * cy u v + cz u v * cz u v)).g, .int .u64 (w8 (cx u v * cx u v + cy u v * cy u v + cz u v * cz u v)).h]) (by rfl) (by rfl) (by rfl) hT (by kernel_rfl) (by rfl) (by simp [Value.oneCell']) (by kernel_rfl) ?_
  conv => arg 5; simp only [Act.put, List.setIfInBounds_toArray, List.set_cons_zero, List.set_cons_succ]
  refine wpList_nil ?_
  have hT := hT.row [.int .u64 (w8 (cx u v * cx u v + cy u v * cy u v + cz u v * cz u v)).a, .int .u64 (w8 (cx u v * cx u v + cy u v * cy u v + cz u v * cz u v)).b, .int .u64 (w8 (cx u v * cx u v + cy u v * cy u v + cz u v * cz u v)).c, .int .u64 (w8 (cx u v * cx u v + cy u v * cy u v + cz u v * cz u v)).d, .int .u64 (w8 (cx u v * cx u v + cy u v * cy u v + cz u v * cz u v)).e, .int .u64 (w8 (cx u v * cx u v + cy u v * cy u v + cz u v * cz u v)).f, .int .u64 (w8 (cx u v * cx u v + cy u v * cy u v + cz u v * cz u v)).g, .int .u64 (w8 (cx u v * cx u v + cy u v * cy u v + cz u v * cz u v)).h]
  have hR := hR.rowOther (g := gs) (by omega) [.int .u64 (w8 (cx u v * cx u v + cy u v * cy u v + cz u v * cz u v)).a, .int .u64 (w8 (cx u v * cx u v + cy u v * cy u v + cz u v * cz u v)).b, .int .u64 (w8 (cx u v * cx u v + cy u v * cy u v + cz u v * cz u v)).c, .int .u64 (w8 (cx u v * cx u v + cy u v * cy u v + cz u v * cz u v)).d, .int .u64 (w8 (cx u v * cx u v + cy u v * cy u v + cz u v * cz u v)).e, .int .u64 (w8 (cx u v * cx u v + cy u v * cy u v + cz u v * cz u v)).f, .int .u64 (w8 (cx u v * cx u v + cy u v * cy u v + cz u v * cz u v)).g, .int .u64 (w8 (cx u v * cx u v + cy u v * cy u v + cz u v * cz u v)).h].toArray
  have hW := below_setRow hW (g := gs) (by omega) [.int .u64 (w8 (cx u v * cx u v + cy u v * cy u v + cz u v * cz u v)).a, .int .u64 (w8 (cx u v * cx u v + cy u v * cy u v + cz u v * cz u v)).b, .int .u64 (w8 (cx u v * cx u v + cy u v * cy u v + cz u v * cz u v)).c, .int .u64 (w8 (cx u v * cx u v + cy u v * cy u v + cz u v * cz u v)).d, .int .u64 (w8 (cx u v * cx u v + cy u v * cy u v + cz u v * cz u v)).e, .int .u64 (w8 (cx u v * cx u v + cy u v * cy u v + cz u v * cz u v)).f, .int .u64 (w8 (cx u v * cx u v + cy u v * cy u v + cz u v * cz u v)).g, .int .u64 (w8 (cx u v * cx u v + cy u v * cy u v + cz u v * cz u v)).h].toArray
  revert hT hR hW
  generalize wd.setRow gs [.int .u64 (w8 (cx u v * cx u v + cy u v * cy u v + cz u v * cz u v)).a, .int .u64 (w8 (cx u v * cx u v + cy u v * cy u v + cz u v * cz u v)).b, .int .u64 (w8 (cx u v * cx u v + cy u v * cy u v + cz u v * cz u v)).c, .int .u64 (w8 (cx u v * cx u v + cy u v * cy u v + cz u v * cz u v)).d, .int .u64 (w8 (cx u v * cx u v + cy u v * cy u v + cz u v * cz u v)).e, .int .u64 (w8 (cx u v * cx u v + cy u v * cy u v + cz u v * cz u v)).f, .int .u64 (w8 (cx u v * cx u v + cy u v * cy u v + cz u v * cz u v)).g, .int .u64 (w8 (cx u v * cx u v + cy u v * cy u v + cz u v * cz u v)).h].toArray = we
  intro hT hR hW
  iterate 11 go_step
  rw [rounds_succ]
  iterate 2 go_step
  iterate 1 (with_reducible refine wpL_val (v := ?_) ?_ ?_ ?_; rotate_left; (· kernel_rfl); (· go_simp; try with_reducible rfl); conv => arg 5; simp only [Act.put, List.setIfInBounds_toArray, List.set_cons_zero, List.set_cons_succ])
  refine wpList_nil ?_
  iterate 9 go_step
  refine wpL_load (l := [.int .u64 (w8 (cx u v * cx u v + cy u v * cy u v + cz u v * cz u v)).a, .int .u64 (w8 (cx u v * cx u v + cy u v * cy u v + cz u v * cz u v)).b, .int .u64 (w8 (cx u v * cx u v + cy u v * cy u v + cz u v * cz u v)).c, .int .u64 (w8 (cx u v * cx u v + cy u v * cy u v + cz u v * cz u v)).d, .int .u64 (w8 (cx u v * cx u v + cy u v * cy u v + cz u v * cz u v)).e, .int .u64 (w8 (cx u v * cx u v + cy u v * cy u v + cz u v * cz u v)).f, .int .u64 (w8 (cx u v * cx u v + cy u v * cy u v + cz u v * cz u v)).g, .int .u64 (w8 (cx u v * cx u v + cy u v * cy u v + cz u v * cz u v)).h]) (by rfl) (by rfl) hT Try.underlying37 (by rfl) (by kernel_rfl) (by kernel_rfl) ?_
  conv => arg 5; simp only [Act.put, List.setIfInBounds_toArray, List.set_cons_zero, List.set_cons_succ]
  refine wpL_store (cs := [.int .u64 (w8 (cx u v * cx u v + cy u v * cy u v + cz u v * cz u v)).a, .int .u64 (w8 (cx u v * cx u v + cy u v * cy u v + cz u v * cz u v)).b, .int .u64 (w8 (cx u v * cx u v + cy u v * cy u v + cz u v * cz u v)).c, .int .u64 (w8 (cx u v * cx u v + cy u v * cy u v + cz u v * cz u v)).d, .int .u64 (w8 (cx u v * cx u v + cy u v * cy u v + cz u v * cz u v)).e, .int .u64 (w8 (cx u v * cx u v + cy u v * cy u v + cz u v * cz u v)).f, .int .u64 (w8 (cx u v * cx u v + cy u v * cy u v + cz u v * cz u v)).g, .int .u64 (w8 (cx u v * cx u v + cy u v * cy u v + cz u v * cz u v)).h]) (by rfl) (by rfl) (by rfl) hR (by kernel_rfl) (by rfl) (by simp [Value.oneCell']) (by kernel_rfl) ?_
  conv => arg 5; simp only [Act.put, List.setIfInBounds_toArray, List.set_cons_zero, List.set_cons_succ]
  have hR := hR.row [.int .u64 (w8 (cx u v * cx u v + cy u v * cy u v + cz u v * cz u v)).a, .int .u64 (w8 (cx u v * cx u v + cy u v * cy u v + cz u v * cz u v)).b, .int .u64 (w8 (cx u v * cx u v + cy u v * cy u v + cz u v * cz u v)).c, .int .u64 (w8 (cx u v * cx u v + cy u v * cy u v + cz u v * cz u v)).d, .int .u64 (w8 (cx u v * cx u v + cy u v * cy u v + cz u v * cz u v)).e, .int .u64 (w8 (cx u v * cx u v + cy u v * cy u v + cz u v * cz u v)).f, .int .u64 (w8 (cx u v * cx u v + cy u v * cy u v + cz u v * cz u v)).g, .int .u64 (w8 (cx u v * cx u v + cy u v * cy u v + cz u v * cz u v)).h]
  have hW := below_setRow hW (g := w.heap.size + 1 + 1 + 1) (by omega) [.int .u64 (w8 (cx u v * cx u v + cy u v * cy u v + cz u v * cz u v)).a, .int .u64 (w8 (cx u v * cx u v + cy u v * cy u v + cz u v * cz u v)).b, .int .u64 (w8 (cx u v * cx u v + cy u v * cy u v + cz u v * cz u v)).c, .int .u64 (w8 (cx u v * cx u v + cy u v * cy u v + cz u v * cz u v)).d, .int .u64 (w8 (cx u v * cx u v + cy u v * cy u v + cz u v * cz u v)).e, .int .u64 (w8 (cx u v * cx u v + cy u v * cy u v + cz u v * cz u v)).f, .int .u64 (w8 (cx u v * cx u v + cy u v * cy u v + cz u v * cz u v)).g, .int .u64 (w8 (cx u v * cx u v + cy u v * cy u v + cz u v * cz u v)).h].toArray
  refine wpList_nil ?_
  go_wp2
  exact bodyPost_ret (v := .agg #[.int .u64 (w8 (cx u v * cx u v + cy u v * cy u v + cz u v * cz u v)).a, .int .u64 (w8 (cx u v * cx u v + cy u v * cy u v + cz u v * cz u v)).b, .int .u64 (w8 (cx u v * cx u v + cy u v * cy u v + cz u v * cz u v)).c, .int .u64 (w8 (cx u v * cx u v + cy u v * cy u v + cz u v * cz u v)).d, .int .u64 (w8 (cx u v * cx u v + cy u v * cy u v + cz u v * cz u v)).e, .int .u64 (w8 (cx u v * cx u v + cy u v * cy u v + cz u v * cz u v)).f, .int .u64 (w8 (cx u v * cx u v + cy u v * cy u v + cz u v * cz u v)).g, .int .u64 (w8 (cx u v * cx u v + cy u v * cy u v + cz u v * cz u v)).h]) (results_cell_row Try.results21 _ _ _ _ _ _ _ (by rfl) hR Try.underlying37 (by rfl) (by kernel_rfl)) rfl ⟨rfl, hW⟩
end GAr
end Go.Proofs.Ytbbiefgmlklafaa
