/- A node reckoned anew: the walk. Condition: the node and its two are there, their heights not great. A node lifted above the one over it: the walk. Condition: the nodes are there, the heights not great. Mending from a node up: the walk. Condition: what is so while a tree is mended, and all its places lie in the nodes. Slices of one-cell values, those of one's own too: integers, slices. No condition. -/
import Derived.Test.YtbcjnckejkjfeaaGreatQah
import Derived.Test.YtbcjnckejkjfeaaGreatQae
import Derived.Maps.AppendAt
namespace Go.Proofs.YtbcjnckejkjfeaaGreat
set_option linter.unusedVariables false
set_option linter.unusedSimpArgs false
open Go.RowKit Go.NP
namespace TrA
open TrP TrW TrC
theorem cfJ (args : Array Value) (w1 : World) : (callFunc 60 args).run Tryz.prog w1 = .ok (.enter 60 args) w1 := enters Tryz.func60 (by kernel_rfl) (by kernel_rfl) args w1
theorem TN.at {w : World} {T : Tn} (h : TN w T) {i : Nat} (hi : i < T.N) : At' w T.g (i * 17) (ndv (T.m i)) := fun j v hv => h.cell hi hv
theorem TN.lt {w : World} {T : Tn} (h : TN w T) : T.p < w.heap.size ∧ T.g < w.heap.size := by
  obtain ⟨L, hb, _⟩ := h.row
  exact ⟨h.box.lt, hb.lt⟩
theorem below_row {B g : Nat} {w0 w : World} (h : Below B w0 w) (hg : B ≤ g) (cs : Array Value) : Below B w0 (w.setRow g cs) :=
  h.trans ⟨rfl, rfl, rfl, by simp [World.setRow], fun k hk => setRow_other w g k cs (by omega)⟩
theorem nd_one (x : Nd) : (ndv x).toArray.all (·.oneCell') = true := by simp [ndv, bdv, Value.oneCell']
theorem szN (x : Nd) : (Tryz.prog.info? 73).map (·.size) = some (ndv x).length := by rw [ndv_len]; kernel_rfl
theorem ptr_ne {x y : Value} {g1 g2 : Nat} (h1 : x = .pointer (some ⟨g1, 0, none⟩)) (h2 : y = .pointer (some ⟨g2, 0, none⟩)) (h : x ≠ y) : ¬ g1 = g2 := fun e => h (by rw [h1, h2, e])
theorem st_st (m : M) (i : Int) (x y : Nd) : st (st m i x) i y = st m i y := by funext k; unfold st; split <;> rfl
theorem st_self (m : M) (i : Int) (x y : Nd) : st (st m i x) i y = st m i y := st_st m i x y
/-- A node's fat bound is written. -/
theorem TN.putFat {w : World} {T : Tn} (h : TN w T) {k : Nat} (hk : k < T.N) (b : Bd) : TN (w.setCells T.g (k * 17) (bdv b)) { T with m := st T.m k { T.m k with fat := b } } := by
  have h1 := h.put (v := .int .i64 b.lo.x) (x := { T.m k with fat := ⟨⟨b.lo.x, (T.m k).fat.lo.y, (T.m k).fat.lo.z⟩, (T.m k).fat.hi⟩ }) hk (show 0 < 17 by omega) rfl
  have h2 := h1.put (v := .int .i64 b.lo.y) (x := { T.m k with fat := ⟨⟨b.lo.x, b.lo.y, (T.m k).fat.lo.z⟩, (T.m k).fat.hi⟩ }) hk (show 1 < 17 by omega) (by simp only [st_at]; rfl)
  have h3 := h2.put (v := .int .i64 b.lo.z) (x := { T.m k with fat := ⟨b.lo, (T.m k).fat.hi⟩ }) hk (show 2 < 17 by omega) (by simp only [st_at]; rfl)
  have h4 := h3.put (v := .int .i64 b.hi.x) (x := { T.m k with fat := ⟨b.lo, ⟨b.hi.x, (T.m k).fat.hi.y, (T.m k).fat.hi.z⟩⟩ }) hk (show 3 < 17 by omega) (by simp only [st_at]; rfl)
  have h5 := h4.put (v := .int .i64 b.hi.y) (x := { T.m k with fat := ⟨b.lo, ⟨b.hi.x, b.hi.y, (T.m k).fat.hi.z⟩⟩ }) hk (show 4 < 17 by omega) (by simp only [st_at]; rfl)
  have h6 := h5.put (v := .int .i64 b.hi.z) (x := { T.m k with fat := b }) hk (show 5 < 17 by omega) (by simp only [st_at]; rfl)
  simp only [st_st] at h6
  exact h6
theorem Mod.cells {w1 : World} {p g : Nat} : ∀ (vs : List Value) (o : Nat) (w2 : World), Mod w1 w2 p g → Mod w1 (w2.setCells g o vs) p g
  | [], _, _, h => h
  | v :: r, o, w2, h => Mod.cells r (o + 1) _ (h.cell (.inr rfl) v)
theorem box_cells {b g : Nat} {L : List Value} {Ty : TypeId} (hne : g ≠ b) : ∀ (vs : List Value) (o : Nat) (w2 : World), Box w2 b L Ty → Box (w2.setCells g o vs) b L Ty
  | [], _, _, h => h
  | v :: r, o, w2, h => box_cells hne r (o + 1) _ (h.other hne v)
theorem TN.there {w : World} {T : Tn} (h : TN w T) {k : Nat} (hk : k < T.N) : w.there T.g (k * 17) 6 := fun j hj => by
  refine ⟨?_, h.free _⟩
  obtain ⟨v, hv⟩ : ∃ v, (ndv (T.m k))[j]? = some v := ⟨_, List.getElem?_eq_getElem (by rw [ndv_len]; omega)⟩
  rw [h.cell hk hv]; rfl
theorem TN.rowOther {w : World} {T : Tn} (h : TN w T) {g : Nat} (h1 : g ≠ T.p) (h2 : g ≠ T.g) (cs : Array Value) : TN (w.setRow g cs) T := by
  obtain ⟨L, hb, hl, hc⟩ := h.row
  exact ⟨h.box.rowOther (fun e => h1 e.symm) cs, ⟨L, hb.rowOther (fun e => h2 e.symm) cs, hl, hc⟩, h.cap, h.ne, h.small⟩
theorem TN.drew {w : World} {T : Tn} (h : TN w T) : TN w.drew T := h.step ((Below.refl _ _).drew)
section
variable {P : Program} {Q : Exit → Act → World → Prop} {ls es : List Nat} {Te : List (Nat × Option Tmp) → Act → Prop} {ops : Array Oper} {r : List Oper} {acc : List (Nat × Option Tmp)} {a : Act} {v : Value} {i i0 : Nat} {R1 R2 : World → Prop}
/-- A call that makes new blocks alone, ahead of the operation that changes the world or behind it. -/
theorem SeqO.callv1 {dst : Option Tmp} {x : Operand} {f : FuncId} {ca : Array Value} {xs : Array Operand} {ats : Array TypeId} {ty : TypeId} {pos : String} {after : Array Edge} {guard : Option (Nat × Bool)} {args : Array Value}
    (hi : (!ls.contains i && !es.contains i && i != i0) = true)
    (hw : Region.wanted { dst, op := .call { callee := .value x, args := xs, argTypes := ats }, type := ty, pos, after, guard } (yielded ops a.tmps) = true) (hx : a.eval x = .func (.func f) #[] ca)
    (hcf : ∀ args w1, (callFunc f args).run P w1 = .ok (.enter f args) w1) (hargs : #[] ++ xs.map a.eval ++ ca = args)
    (h3 : ∀ w, R1 w ∨ R2 w → Calls P f args w fun e w' => e = .returned v ∧ (R1 w → R1 w') ∧ (R2 w → R2 w')) (h2 : SeqO P ops Q (SOne i0 R1 R2) ls es Te (i + 1) r acc (a.put dst v)) :
    SeqO P ops Q (SOne i0 R1 R2) ls es Te i ({ dst, op := .call { callee := .value x, args := xs, argTypes := ats }, type := ty, pos, after, guard } :: r) acc a := by
  simp only [Bool.and_eq_true, Bool.not_eq_true'] at hi
  unfold SeqO
  rw [if_neg (by rw [hi.1.1]; simp)]
  refine ⟨v, fun L u w hL hS K hK => ?_, fun h => (by rw [hi.1.2] at h; cases h), h2⟩
  rw [if_pos hw]
  simp only [Oper.wp, execOp_call_val hx, hcf, hargs, Oper.upon]
  refine (h3 w (by unfold SOne at hS; split at hS; exact .inr hS; exact .inl hS)).mono fun e w' ⟨he, h1, h2'⟩ => ?_
  subst he
  refine hK w' (sOne_mark hi.2 ?_)
  unfold SOne at *
  split
  · rename_i hl; rw [if_pos hl] at hS; exact h2' hS
  · rename_i hl; rw [if_neg hl] at hS; exact h1 hS
end
set_option maxRecDepth 100000 in
set_option maxHeartbeats 4000000 in
theorem againC {T : Tn} {i lk rk : Nat} (w : World) (h : TN w T) (hi : i < T.N) (hl : (T.m i).l = lk) (hlk : lk < T.N) (hr : (T.m i).r = rk) (hrk : rk < T.N) (hh : 0 ≤ (T.m lk).h ∧ (T.m lk).h ≤ 100000 ∧ 0 ≤ (T.m rk).h ∧ (T.m rk).h ≤ 100000) :
    Calls Tryz.prog 81 #[.pointer (some ⟨T.p, 0, none⟩), .int .i64 (i : Int)] w fun e w' => e = .returned (.tuple #[]) ∧ TN w' { T with m := again T.m i } ∧ Mod w w' T.p T.g := by
  have HT := Lib.hid h
  have c2 := h.nodes
  have i0 : 0 ≤ (i : Int) ∧ (i : Int) < T.N := by omega
  have l0 : 0 ≤ (lk : Int) ∧ (lk : Int) < T.N := by omega
  have r0 : 0 ≤ (rk : Int) ∧ (rk : Int) < T.N := by omega
  have cl := h.cell hi (j := 14) rfl
  have cr := h.cell hi (j := 15) rfl
  rw [hl] at cl; rw [hr] at cr
  obtain ⟨hgp, hgl⟩ := TN.lt h
  have al := Lib.hid (TN.at h hlk)
  have ar := Lib.hid (TN.at h hrk)
  have HH := Lib.hid hh
  clear h hh
  go_enter Tryz.func81, Tryz.ntmps81
  iterate 3 go_step
  iterate 7 (with_reducible refine wpL_val (v := ?_) ?_ ?_ ?_; rotate_left; (· kernel_rfl); (· go_simp; try with_reducible rfl); conv => arg 5; simp only [Act.put, List.setIfInBounds_toArray, List.set_cons_zero, List.set_cons_succ])
  refine wpList_nil ?_
  iterate 3 go_step
  refine wp_region_ph [(23, .fre [20, 21, 22] [22])] (by kernel_rfl) (by kernel_rfl) ?_
  refine Ph.filld [(20, [.int .i64 0, .int .i64 0, .int .i64 0, .int .i64 0, .int .i64 0, .int .i64 0, .int .i64 0, .int .i64 0, .int .i64 0, .int .i64 0, .int .i64 0, .int .i64 0, .int .i64 0, .int .i64 0, .int .i64 0, .int .i64 0, .int .i64 0], 73), (21, [.int .i64 0, .int .i64 0, .int .i64 0, .int .i64 0, .int .i64 0, .int .i64 0, .int .i64 0, .int .i64 0, .int .i64 0, .int .i64 0, .int .i64 0, .int .i64 0, .int .i64 0, .int .i64 0, .int .i64 0, .int .i64 0, .int .i64 0], 73)] 22 20 (ndv (T.m lk)) (by rfl) (fun d c a v w h => by cases d <;> exact h) ?_
  simp only [List.drop_succ_cons, List.drop_zero, List.take_succ_cons, List.take_zero, Nat.reduceSub, Nat.sub_zero]
  iterate 9 (refine SeqO.valR (v := ?_) (by rfl) (by rfl) (fun w1 hS => ?_) ?_; rotate_left; (· obtain ⟨hc, hcf⟩ := bcell hS; go_simp; try with_reducible rfl); simp only [Act.put, List.setIfInBounds_toArray, List.set_cons_zero, List.set_cons_succ])
  refine SeqO.valR (v := .agg (ndv (T.m lk)).toArray) (by rfl) (by rfl) (fun w1 hS => run_load_part (by rfl) (by rfl) (al.out.step hgl hS) Tryz.underlying73 (by rfl) (szN _)) ?_
  simp only [Act.put, List.setIfInBounds_toArray, List.set_cons_zero, List.set_cons_succ]
  iterate 9 (refine SeqO.valR (v := ?_) (by rfl) (by rfl) (fun w1 hS => ?_) ?_; rotate_left; (· obtain ⟨hc, hcf⟩ := bcell hS; go_simp; try with_reducible rfl); simp only [Act.put, List.setIfInBounds_toArray, List.set_cons_zero, List.set_cons_succ])
  refine SeqO.valR (v := .agg (ndv (T.m rk)).toArray) (by rfl) (by rfl) (fun w1 hS => run_load_part (by rfl) (by rfl) (ar.out.step hgl hS) Tryz.underlying73 (by rfl) (szN _)) ?_
  simp only [Act.put, List.setIfInBounds_toArray, List.set_cons_zero, List.set_cons_succ]
  refine SeqO.allocR (cs := [.int .i64 0, .int .i64 0, .int .i64 0, .int .i64 0, .int .i64 0, .int .i64 0, .int .i64 0, .int .i64 0, .int .i64 0, .int .i64 0, .int .i64 0, .int .i64 0, .int .i64 0, .int .i64 0, .int .i64 0, .int .i64 0, .int .i64 0]) (Ty := 73) (by rfl) ⟨73, by simp⟩ (by rfl) (by simp) (by rfl) (fun w => by go_simp) ?_
  refine SeqO.allocR (cs := [.int .i64 0, .int .i64 0, .int .i64 0, .int .i64 0, .int .i64 0, .int .i64 0, .int .i64 0, .int .i64 0, .int .i64 0, .int .i64 0, .int .i64 0, .int .i64 0, .int .i64 0, .int .i64 0, .int .i64 0, .int .i64 0, .int .i64 0]) (Ty := 73) (by rfl) ⟨73, by simp⟩ (by rfl) (by simp) (by rfl) (fun w => by go_simp) ?_
  refine SeqO.fillR (cs := [.int .i64 0, .int .i64 0, .int .i64 0, .int .i64 0, .int .i64 0, .int .i64 0, .int .i64 0, .int .i64 0, .int .i64 0, .int .i64 0, .int .i64 0, .int .i64 0, .int .i64 0, .int .i64 0, .int .i64 0, .int .i64 0, .int .i64 0]) (Ty := 73) (d := some 5) (fun w g => w.setRow g (ndv (T.m lk)).toArray) (by rfl) (by simp) (by simp) rfl (by simp) (fun u => by rfl) (fun u g w hu hb => ?_) (fun w g hb => hb.row _) (fun w g b c Tb hne hb => hb.rowOther hne _) (fun w g hw hg => below_row hw hg _) ?_
  · simp only [List.nil_append, List.cons_append, List.foldl_cons, List.foldl_nil, hu]
    exact run_store_row (by rfl) (by rfl) (by rfl) hb (szN _) (by rfl) (nd_one _)
  refine SeqO.nilR (by omega) fun L u w8 hL hA => ?_
  obtain ⟨g1, hg1, he1, hb1⟩ := hA.made (20, ndv (T.m lk), 73) (by simp [fillAl]) (hL 20 (by omega))
  obtain ⟨g2, hg2, he2, hb2⟩ := hA.made (21, [.int .i64 0, .int .i64 0, .int .i64 0, .int .i64 0, .int .i64 0, .int .i64 0, .int .i64 0, .int .i64 0, .int .i64 0, .int .i64 0, .int .i64 0, .int .i64 0, .int .i64 0, .int .i64 0, .int .i64 0, .int .i64 0, .int .i64 0], 73) (by simp [fillAl]) (hL 21 (by omega))
  have n1 : ¬ g1 = g2 := ptr_ne hg1 hg2 (hA.ne (20, ndv (T.m lk), 73) (by simp [fillAl]) (21, [.int .i64 0, .int .i64 0, .int .i64 0, .int .i64 0, .int .i64 0, .int .i64 0, .int .i64 0, .int .i64 0, .int .i64 0, .int .i64 0, .int .i64 0, .int .i64 0, .int .i64 0, .int .i64 0, .int .i64 0, .int .i64 0, .int .i64 0], 73) (by simp [fillAl]) (hL 20 (by omega)) (hL 21 (by omega)) (by simp))
  have hS := hA.below
  clear hA hL
  simp only [List.nil_append, List.cons_append, List.foldl_cons, List.foldl_nil, hg1, hg2]
  refine Ph.last ?_
  simp only [List.drop_succ_cons, List.drop_zero, List.take_succ_cons, List.take_zero, Nat.reduceSub, Nat.sub_zero]
  have hb2 : Box w8 g2 [.int .i64 0, .int .i64 0, .int .i64 0, .int .i64 0, .int .i64 0, .int .i64 0, .int .i64 0, .int .i64 0, .int .i64 0, .int .i64 0, .int .i64 0, .int .i64 0, .int .i64 0, .int .i64 0, .int .i64 0, .int .i64 0, .int .i64 0] 73 := hb2
  refine wpL_store (cs := ndv (T.m rk)) (by rfl) (by rfl) (by rfl) hb2 (szN _) (by rfl) (nd_one _) (by kernel_rfl) ?_
  conv => arg 5; simp only [Act.put, List.setIfInBounds_toArray, List.set_cons_zero, List.set_cons_succ]
  refine wpList_nil ?_
  have he1 : w.heap.size ≤ g1 := he1
  have he2 : w.heap.size ≤ g2 := he2
  have hb1 : Box w8 g1 (ndv (T.m lk)) 73 := hb1
  have T9 : TN (w8.setRow g2 (ndv (T.m rk)).toArray) T := TN.rowOther (HT.out.step hS) (by omega) (by omega) _
  have B1 : Box (w8.setRow g2 (ndv (T.m rk)).toArray) g1 (ndv (T.m lk)) 73 := hb1.rowOther n1 _
  have B2 : Box (w8.setRow g2 (ndv (T.m rk)).toArray) g2 (ndv (T.m rk)) 73 := hb2.row _
  have S9 := below_row hS he2 (ndv (T.m rk)).toArray
  clear hg1 hg2 hb1 hb2 hS c2 cl cr al ar HT
  revert T9 B1 B2 S9
  generalize w8.setRow g2 (ndv (T.m rk)).toArray = w9
  intro T9 B1 B2 S9
  iterate 2 go_step
  refine wp_region_ph [(16, .free [])] (by kernel_rfl) (by kernel_rfl) ?_
  replace T9 := TN.drew T9
  replace B1 := B1.drew
  replace B2 := B2.drew
  replace S9 := S9.drew
  revert T9 B1 B2 S9
  generalize w9.drew = w9
  intro T9 B1 B2 S9
  have L' := hl
  obtain ⟨x, hx⟩ : ∃ x, T.m lk = x := ⟨_, rfl⟩
  obtain ⟨y, hy⟩ : ∃ y, T.m rk = y := ⟨_, rfl⟩
  have hhh := HH.out
  rw [hx, hy] at hhh
  rw [hx] at B1
  rw [hy] at B2
  simp only [hx, hy]
  have mx : 0 ≤ 1 + max x.h y.h ∧ 1 + max x.h y.h ≤ 999999 := by omega
  have v1 : IntKind.i64.wrap (1 + max x.h y.h) = 1 + max x.h y.h := by rw [IntKind.wrap_i64]; omega
  have v2 : wrap64 (1 + max x.h y.h) = 1 + max x.h y.h := by unfold wrap64; omega
  have CE := Lib.hid (fun (u : World) (hS : Below w9.heap.size w9 u ∨ (TN u { T with m := st T.m i { T.m i with fat := join x.fat y.fat } } ∧ Mod w9 u T.p T.g ∧ Box u g1 (ndv x) 73 ∧ Box u g2 (ndv y) 73)) => (show Box u g1 (ndv x) 73 ∧ Box u g2 (ndv y) 73 from by
    rcases hS with h | h
    · exact ⟨B1.step h, B2.step h⟩
    · exact h.2.2))
  refine Ph.one 15 (fun u => Below w9.heap.size w9 u) (fun u => TN u { T with m := st T.m i { T.m i with fat := join x.fat y.fat } } ∧ Mod w9 u T.p T.g ∧ Box u g1 (ndv x) 73 ∧ Box u g2 (ndv y) 73) (by rfl) (Below.refl _ _) ?_
  simp only [List.drop_succ_cons, List.drop_zero, List.take_succ_cons, List.take_zero, Nat.reduceSub, Nat.sub_zero]
  iterate 3 (refine SeqO.val1 (v := ?_) (by rfl) (by rfl) (fun w1 hS => ?_) ?_; rotate_left; (· skip; go_simp; try with_reducible rfl); simp only [Act.put, List.setIfInBounds_toArray, List.set_cons_zero, List.set_cons_succ])
  refine SeqO.val1 (v := .agg (bdv x.fat).toArray) (by rfl) (by rfl) (fun u hS => run_load_part (by rfl) (by rfl) ((CE.out u hS).1.part 0 6) Tryz.underlying38 (by rfl) (by kernel_rfl)) ?_
  simp only [Act.put, List.setIfInBounds_toArray, List.set_cons_zero, List.set_cons_succ]
  iterate 1 (refine SeqO.val1 (v := ?_) (by rfl) (by rfl) (fun w1 hS => ?_) ?_; rotate_left; (· skip; go_simp; try with_reducible rfl); simp only [Act.put, List.setIfInBounds_toArray, List.set_cons_zero, List.set_cons_succ])
  refine SeqO.val1 (v := .agg (bdv y.fat).toArray) (by rfl) (by rfl) (fun u hS => run_load_part (by rfl) (by rfl) ((CE.out u hS).2.part 0 6) Tryz.underlying38 (by rfl) (by kernel_rfl)) ?_
  simp only [Act.put, List.setIfInBounds_toArray, List.set_cons_zero, List.set_cons_succ]
  refine SeqO.callv1 (v := .agg (bdv (join x.fat y.fat)).toArray) (by rfl) (by rfl) (by rfl) cfJ (by simp [Act.eval] <;> rfl) (fun u hR => ?_) ?_
  · refine (joinC x.fat y.fat u).mono ?_
    rintro e w' ⟨rfl, hS⟩
    exact ⟨rfl, fun h => h.trans (hS.mono h.size), fun h => ⟨h.1.step hS, h.2.1.trans (Mod.of_below hS), h.2.2.1.step hS, h.2.2.2.step hS⟩⟩
  simp only [Act.put, List.setIfInBounds_toArray, List.set_cons_zero, List.set_cons_succ]
  iterate 1 (refine SeqO.val1 (v := ?_) (by rfl) (by rfl) (fun w1 hS => ?_) ?_; rotate_left; (· skip; go_simp; try with_reducible rfl); simp only [Act.put, List.setIfInBounds_toArray, List.set_cons_zero, List.set_cons_succ])
  iterate 1 (refine SeqO.val1 (v := ?_) (by rfl) (by rfl) (fun w1 hS => ?_) ?_; rotate_left; (· (have c0 : w1.cell? ⟨g1, 16, none⟩ = some (.int .i64 x.h) := by (rw [(CE.out w1 hS).1.cell]; rfl)); go_simp; try with_reducible rfl); simp only [Act.put, List.setIfInBounds_toArray, List.set_cons_zero, List.set_cons_succ])
  iterate 1 (refine SeqO.val1 (v := ?_) (by rfl) (by rfl) (fun w1 hS => ?_) ?_; rotate_left; (· skip; go_simp; try with_reducible rfl); simp only [Act.put, List.setIfInBounds_toArray, List.set_cons_zero, List.set_cons_succ])
  iterate 1 (refine SeqO.val1 (v := ?_) (by rfl) (by rfl) (fun w1 hS => ?_) ?_; rotate_left; (· (have c0 : w1.cell? ⟨g2, 16, none⟩ = some (.int .i64 y.h) := by (rw [(CE.out w1 hS).2.cell]; rfl)); go_simp; try with_reducible rfl); simp only [Act.put, List.setIfInBounds_toArray, List.set_cons_zero, List.set_cons_succ])
  iterate 4 (refine SeqO.val1 (v := ?_) (by rfl) (by rfl) (fun w1 hS => ?_) ?_; rotate_left; (· skip; go_simp; try with_reducible rfl); simp only [Act.put, List.setIfInBounds_toArray, List.set_cons_zero, List.set_cons_succ])
  refine SeqO.one (v := undef) (by rfl) (by rfl) (fun u hR K hK => ?_) ?_
  · have tu := T9.step hR
    refine wp_store_mid 38 (.tmp 47) (.tmp 39) (by rfl) T.g (i * 17) (bdv (join x.fat y.fat)).toArray (by rfl) (by rfl) (TN.there tu hi) (by kernel_rfl) (by simp [bdv, Value.oneCell']) (hK _ ⟨TN.putFat tu hi _, Mod.cells _ _ _ (Mod.of_below hR), box_cells (by omega) _ _ _ (B1.step hR), box_cells (by omega) _ _ _ (B2.step hR)⟩)
  simp only [Act.put, List.setIfInBounds_toArray, List.set_cons_zero, List.set_cons_succ]
  refine SeqO.nil1 (by decide) fun w10 hR2 => ?_
  refine Ph.last ?_
  simp only [List.drop_succ_cons, List.drop_zero, List.take_succ_cons, List.take_zero, Nat.reduceSub, Nat.sub_zero]
  obtain ⟨h10, m10, _, _⟩ := hR2
  clear CE B1 B2
  have ev : IntKind.i64.wrap (1 + if x.h < y.h then y.h else x.h) = 1 + max x.h y.h := by rw [IntKind.wrap_i64]; split <;> omega
  rw [ev]
  clear v1 v2 ev
  iterate 2 (with_reducible refine wpL_val (v := ?_) ?_ ?_ ?_; rotate_left; (· kernel_rfl); (· go_simp; try with_reducible rfl); conv => arg 5; simp only [Act.put, List.setIfInBounds_toArray, List.set_cons_zero, List.set_cons_succ])
  refine wpL_nf (T := { T with m := st T.m i { T.m i with fat := join x.fat y.fat } }) (k := i) (j := 16) (x := .tmp 49) (y := .tmp 45) (n := 1 + max x.h y.h) (z := { T.m i with fat := join x.fat y.fat, h := 1 + max x.h y.h }) (by rfl) (by rfl) (by rfl) (by rfl) h10 hi (by decide) (by simp only [st_at]; rfl) ?_
  intro w11 h11 m11
  refine wpList_nil ?_
  have em : again T.m i = st T.m i { T.m i with fat := join x.fat y.fat, h := 1 + max x.h y.h } := by unfold again; rw [hl, hr, hx, hy]
  simp only [st_st] at h11
  rw [← em] at h11
  have mm := ((Mod.of_below (p := T.p) (g := T.g) (S9.mono (Nat.le_refl _))).trans (m10.trans m11))
  go_end0
  exact ⟨rfl, h11, mm⟩
end TrA
end Go.Proofs.YtbcjnckejkjfeaaGreat
namespace Go.Proofs.YtbcjnckejkjfeaaGreat
set_option linter.unusedVariables false
set_option linter.unusedSimpArgs false
open Go.RowKit Go.NP
namespace TrF
open TrP TrW TrC TrA
/-- A node's two are there, and their heights not great. -/
def Kids (m : M) (N : Nat) (i : Int) : Prop := ∃ p q : Nat, (m i).l = p ∧ p < N ∧ (m i).r = q ∧ q < N ∧ 0 ≤ (m p).h ∧ (m p).h ≤ 100000 ∧ 0 ≤ (m q).h ∧ (m q).h ≤ 100000
theorem againK {T : Tn} {i : Nat} (w : World) (h : TN w T) (hi : i < T.N) (hk : Kids T.m T.N i) :
    Calls Tryz.prog 81 #[.pointer (some ⟨T.p, 0, none⟩), .int .i64 (i : Int)] w fun e w' => e = .returned (.tuple #[]) ∧ TN w' { T with m := again T.m i } ∧ Mod w w' T.p T.g := by
  obtain ⟨p, q, h1, h2, h3, h4, h5, h6, h7, h8⟩ := hk
  exact againC w h hi h1 h2 h3 h4 ⟨h5, h6, h7, h8⟩
theorem wp_nf {o : Oper} {a : Act} {w : World} {K : Act → World → Prop} {Q : Exit → Act → World → Prop} {x y : Operand} {T : Tn} {k j : Nat} {n : Int} {z : Nd} (ho : o.op = .store 3 x y) (hx : a.eval x = .pointer (some ⟨T.g, k * 17 + j, none⟩)) (hy : a.eval y = .int .i64 n) (hT : TN w T) (hk : k < T.N) (hj : j < 17) (hz : ndv z = (ndv (T.m k)).set j (.int .i64 n))
    (h : ∀ w', TN w' { T with m := st T.m k z } → Mod w w' T.p T.g → K (a.put o.dst undef) w') : o.wp Tryz.prog a w K Q := by
  have hc : (w.cell? ⟨T.g, k * 17 + j, none⟩).isSome = true := by
    obtain ⟨v, hv⟩ : ∃ v, (ndv (T.m k))[j]? = some v := ⟨_, List.getElem?_eq_getElem (by rw [ndv_len]; exact hj)⟩
    rw [hT.cell hk hv]; rfl
  unfold Oper.wp execOp
  simp only [ho, hx, hy, Instr.storeAt, Instr.sureAddr, Sem.run_bind, Sem.run_pure, Result.andThen_ok, run_sc (v := .int .i64 n) rfl rfl szI hc (hT.free _)]
  exact h _ (hT.put hk hj hz) ((Mod.refl _ _ _).cell (.inr rfl) _)
set_option maxRecDepth 100000 in
set_option maxHeartbeats 4000000 in
theorem liftC {T : Tn} {a k lo0 hi0 : Nat} {m4 : M} {t2 : Int} (w : World) (h : TN w T) (ha : a < T.N) (hk : k < T.N) (hlo : (T.m k).l = lo0) (hlo2 : lo0 < T.N) (hhi : (T.m k).r = hi0) (hhi2 : hi0 < T.N) (hu : (T.m a).u = -1 ∨ 0 ≤ (T.m a).u ∧ (T.m a).u < T.N)
    (h4 : lift4 (change (change T.m T.top (T.m a).u a k).1 (change T.m T.top (T.m a).u a k).2 a k (lowOf T.m k)).1 a k (highOf T.m k) = m4) (ht : (change (change T.m T.top (T.m a).u a k).1 (change T.m T.top (T.m a).u a k).2 a k (lowOf T.m k)).2 = t2)
    (hA : Kids m4 T.N a) (hB : Kids (again m4 a) T.N k) :
    Calls Tryz.prog 82 #[.pointer (some ⟨T.p, 0, none⟩), .int .i64 (a : Int), .int .i64 (k : Int)] w fun e w' => e = .returned (.int .i64 (k : Int)) ∧ TN w' { T with m := again (again m4 a) k, top := t2 } ∧ Mod w w' T.p T.g := by
  have HT := Lib.hid h
  have c2 := h.nodes
  have k0 : 0 ≤ (k : Int) ∧ (k : Int) < T.N := by omega
  have l0 : 0 ≤ (lo0 : Int) ∧ (lo0 : Int) < T.N := by omega
  have r0 : 0 ≤ (hi0 : Int) ∧ (hi0 : Int) < T.N := by omega
  have a0 : 0 ≤ (a : Int) ∧ (a : Int) < T.N := by omega
  have cl := h.cell hk (j := 14) rfl
  have cr := h.cell hk (j := 15) rfl
  rw [hlo] at cl; rw [hhi] at cr
  have chl := h.cell hlo2 (j := 16) rfl
  have chh := h.cell hhi2 (j := 16) rfl
  have cu := h.cell ha (j := 13) rfl
  obtain ⟨hgp, hgl⟩ := TN.lt h
  have H4 := Lib.hid h4; have H2 := Lib.hid ht; have HA := Lib.hid hA; have HB := Lib.hid hB; have HU := Lib.hid hu; have HLO := Lib.hid hlo; have HHI := Lib.hid hhi
  clear h h4 ht hA hB hu hlo hhi
  go_enter Tryz.func82, Tryz.ntmps82
  go_wp2_with fail
  refine wp_region_ph [(18, .free [])] (by kernel_rfl) (by kernel_rfl) ?_
  refine Ph.belowd ?_
  simp only [List.drop_succ_cons, List.drop_zero, List.take_succ_cons, List.take_zero, Nat.reduceSub, Nat.sub_zero]
  iterate 18 (refine SeqO.val (v := ?_) (by rfl) (by rfl) (fun w1 hS => ?_) ?_; rotate_left; (· obtain ⟨hc, hcf⟩ := bcell hS; go_simp; try with_reducible rfl); simp only [Act.put, List.setIfInBounds_toArray, List.set_cons_zero, List.set_cons_succ])
  refine SeqO.nil0 fun w1 hS1 => ?_
  refine Ph.last ?_
  simp only [List.drop_succ_cons, List.drop_zero, List.take_succ_cons, List.take_zero, Nat.reduceSub, Nat.sub_zero]
  refine wpList_nil ?_
  have HT1 := Lib.hid (HT.out.step hS1)
  have M1 := Mod.of_below (p := T.p) (g := T.g) hS1
  have hgp1 := (TN.lt HT1.out).1
  have hgl1 := (TN.lt HT1.out).2
  clear c2 cl cr chl chh cu hgp hgl HT hS1
  have c2 := HT1.out.nodes
  have chl := HT1.out.cell hlo2 (j := 16) rfl
  have chh := HT1.out.cell hhi2 (j := 16) rfl
  go_wp2_with fail
  refine wp_region_ph [(17, .free [])] (by kernel_rfl) (by kernel_rfl) ?_
  refine Ph.belowd ?_
  simp only [List.drop_succ_cons, List.drop_zero, List.take_succ_cons, List.take_zero, Nat.reduceSub, Nat.sub_zero]
  iterate 17 (refine SeqO.val (v := ?_) (by rfl) (by rfl) (fun w1 hS => ?_) ?_; rotate_left; (· obtain ⟨hc, hcf⟩ := bcell hS; go_simp; try with_reducible rfl); simp only [Act.put, List.setIfInBounds_toArray, List.set_cons_zero, List.set_cons_succ])
  refine SeqO.nil0 fun w2 hS2 => ?_
  refine Ph.last ?_
  simp only [List.drop_succ_cons, List.drop_zero, List.take_succ_cons, List.take_zero, Nat.reduceSub, Nat.sub_zero]
  refine wpList_nil ?_
  have HT2 := Lib.hid (HT1.out.step hS2)
  have M2 := M1.trans (Mod.of_below (p := T.p) (g := T.g) hS2)
  clear c2 chl chh hgp1 hgl1 HT1 hS2 M1
  have c2 := HT2.out.nodes
  have cu := HT2.out.cell ha (j := 13) rfl
  iterate 3 go_step
  · rename_i hgt
    have LO := Lib.hid (show lowOf T.m k = hi0 from by unfold lowOf; rw [HLO.out, HHI.out, if_pos hgt])
    have HI := Lib.hid (show highOf T.m k = lo0 from by unfold highOf; rw [HLO.out, HHI.out, if_pos hgt])
    clear hgt
    rw [LO.out, HI.out] at H4
    rw [LO.out] at H2
    go_wp2_with fail
    refine (changeC w2 HT2.out HU.out ⟨k0.1, k0.2⟩).mono ?_
    rintro e w3 ⟨rfl, h3, m3⟩
    have M3 := M2.trans m3
    clear c2 cu HT2 M2 m3
    go_wp2_with fail
    refine (changeC (was := (k : Int)) w3 h3 (.inr ⟨a0.1, a0.2⟩) (now := (hi0 : Int)) ⟨by omega, by show (hi0 : Int) < (T.N : Int); omega⟩).mono ?_
    rintro e w5 ⟨rfl, h5, m5⟩
    have M5 := M3.trans m5
    clear h3 M3 m5
    obtain ⟨m2, hm2⟩ : ∃ m2, (change (change T.m T.top (T.m a).u a k).1 (change T.m T.top (T.m a).u a k).2 a k (hi0 : Int)).1 = m2 := ⟨_, rfl⟩
    rw [hm2] at H4
    replace h5 : TN w5 { T with m := m2, top := t2 } := by rw [← hm2, ← H2.out]; exact h5
    clear hm2 H2 LO HI HU HLO HHI
    have c2 : w5.cell? ⟨T.p, 2, none⟩ = some (.slice (some ⟨T.g, 0, none⟩) T.N T.cap) := h5.nodes
    go_wp2_with fail
    refine wp_region_ph [(15, .free [])] (by kernel_rfl) (by kernel_rfl) ?_
    clear c2
    have NE := Lib.hid (fun (u : World) (hS : Below w5.heap.size w5 u ∨ (TN u { T with m := st m2 k ((m2 k).setL a), top := t2 } ∧ Mod w5 u T.p T.g)) => (show u.cell? ⟨T.p, 2, none⟩ = some (.slice (some ⟨T.g, 0, none⟩) T.N T.cap) from by (rcases hS with h | h; exact (h5.step h).nodes; exact h.1.nodes)))
    refine Ph.one 14 (fun u => Below w5.heap.size w5 u) (fun u => TN u { T with m := st m2 k ((m2 k).setL a), top := t2 } ∧ Mod w5 u T.p T.g) (by rfl) (Below.refl _ _).drew ?_
    simp only [List.drop_succ_cons, List.drop_zero, List.take_succ_cons, List.take_zero, Nat.reduceSub, Nat.sub_zero]
    iterate 3 (refine SeqO.val1 (v := ?_) (by rfl) (by rfl) (fun w1 hS => ?_) ?_; rotate_left; (· skip; go_simp; try with_reducible rfl); simp only [Act.put, List.setIfInBounds_toArray, List.set_cons_zero, List.set_cons_succ])
    iterate 1 (refine SeqO.val1 (v := ?_) (by rfl) (by rfl) (fun w1 hS => ?_) ?_; rotate_left; (· have c2 := NE.out w1 hS; go_simp; try with_reducible rfl); simp only [Act.put, List.setIfInBounds_toArray, List.set_cons_zero, List.set_cons_succ])
    iterate 4 (refine SeqO.val1 (v := ?_) (by rfl) (by rfl) (fun w1 hS => ?_) ?_; rotate_left; (· skip; go_simp; try with_reducible rfl); simp only [Act.put, List.setIfInBounds_toArray, List.set_cons_zero, List.set_cons_succ])
    iterate 1 (refine SeqO.val1 (v := ?_) (by rfl) (by rfl) (fun w1 hS => ?_) ?_; rotate_left; (· have c2 := NE.out w1 hS; go_simp; try with_reducible rfl); simp only [Act.put, List.setIfInBounds_toArray, List.set_cons_zero, List.set_cons_succ])
    iterate 5 (refine SeqO.val1 (v := ?_) (by rfl) (by rfl) (fun w1 hS => ?_) ?_; rotate_left; (· skip; go_simp; try with_reducible rfl); simp only [Act.put, List.setIfInBounds_toArray, List.set_cons_zero, List.set_cons_succ])
    refine SeqO.one (v := undef) (by rfl) (by rfl) (fun u hR K hK => ?_) ?_
    · refine wp_nf (T := { T with m := m2, top := t2 }) (k := k) (j := 14) (x := .tmp 74) (y := .tmp 71) (n := (a : Int)) (z := (m2 k).setL a) (by rfl) (by rfl) (by rfl) (h5.step hR) hk (by decide) (by rfl) ?_
      exact fun w' h' m' => hK w' ⟨h', (Mod.of_below hR).trans m'⟩
    simp only [Act.put, List.setIfInBounds_toArray, List.set_cons_zero, List.set_cons_succ]
    refine SeqO.nil1 (by decide) fun w6 hR2 => ?_
    refine Ph.last ?_
    simp only [List.drop_succ_cons, List.drop_zero, List.take_succ_cons, List.take_zero, Nat.reduceSub, Nat.sub_zero]
    obtain ⟨h6, m6⟩ := hR2
    have M6 := M5.trans m6
    clear NE M5 m6 h5
    iterate 2 (with_reducible refine wpL_val (v := ?_) ?_ ?_ ?_; rotate_left; (· kernel_rfl); (· go_simp; try with_reducible rfl); conv => arg 5; simp only [Act.put, List.setIfInBounds_toArray, List.set_cons_zero, List.set_cons_succ])
    refine wpL_nf (T := { T with m := st m2 k ((m2 k).setL a), top := t2 }) (k := k) (j := 15) (x := .tmp 76) (y := .tmp 72) (n := (lo0 : Int)) (z := ((m2 k).setL a).setR lo0) (by rfl) (by rfl) (by rfl) (by rfl) h6 hk (by decide) (by simp only [st_at]; rfl) ?_
    intro w7 h7 m7
    have M7 := M6.trans m7
    simp only [st_st] at h7
    clear h6 M6 m7
    refine wpList_nil ?_
    have c2 : w7.cell? ⟨T.p, 2, none⟩ = some (.slice (some ⟨T.g, 0, none⟩) T.N T.cap) := h7.nodes
    go_wp2_with (refine wpL_nf (T := { T with m := st m2 k (((m2 k).setL a).setR lo0), top := t2 }) (k := a) (j := 13) (x := .tmp 84) (y := .tmp 82) (n := (k : Int)) (z := (st m2 k (((m2 k).setL a).setR lo0) a).setU k) (by rfl) (by rfl) (by rfl) (by rfl) h7 ha (by decide) (by rfl) ?_; intro w8 h8 m8)
    replace h8 : TN w8 { T with m := m4, top := t2 } := by rw [← H4.out]; exact h8
    have M8 := M7.trans m8
    clear c2 h7 M7 m8 H4
    refine (againK (T := { T with m := m4, top := t2 }) w8 h8 ha HA.out).mono ?_
    rintro e w9 ⟨rfl, h9, m9⟩
    have M9 := M8.trans m9
    clear h8 M8 m9
    go_wp2_with fail
    refine (againK (T := { T with m := again m4 a, top := t2 }) w9 h9 hk HB.out).mono ?_
    rintro e w10 ⟨rfl, h10, m10⟩
    have M10 := M9.trans m10
    clear h9 M9 m10
    go_wp2_with fail
    exact bodyPost_ret (v := .int .i64 (k : Int)) (by simp [results, Tryz.results82, go_sem, *]) rfl ⟨rfl, h10, M10⟩
  · rename_i hgt
    have LO := Lib.hid (show lowOf T.m k = lo0 from by unfold lowOf; rw [HLO.out, HHI.out, if_neg (by omega)])
    have HI := Lib.hid (show highOf T.m k = hi0 from by unfold highOf; rw [HLO.out, HHI.out, if_neg (by omega)])
    clear hgt
    rw [LO.out, HI.out] at H4
    rw [LO.out] at H2
    go_wp2_with fail
    refine (changeC w2 HT2.out HU.out ⟨k0.1, k0.2⟩).mono ?_
    rintro e w3 ⟨rfl, h3, m3⟩
    have M3 := M2.trans m3
    clear c2 cu HT2 M2 m3
    go_wp2_with fail
    refine (changeC (was := (k : Int)) w3 h3 (.inr ⟨a0.1, a0.2⟩) (now := (lo0 : Int)) ⟨by omega, by show (lo0 : Int) < (T.N : Int); omega⟩).mono ?_
    rintro e w5 ⟨rfl, h5, m5⟩
    have M5 := M3.trans m5
    clear h3 M3 m5
    obtain ⟨m2, hm2⟩ : ∃ m2, (change (change T.m T.top (T.m a).u a k).1 (change T.m T.top (T.m a).u a k).2 a k (lo0 : Int)).1 = m2 := ⟨_, rfl⟩
    rw [hm2] at H4
    replace h5 : TN w5 { T with m := m2, top := t2 } := by rw [← hm2, ← H2.out]; exact h5
    clear hm2 H2 LO HI HU HLO HHI
    have c2 : w5.cell? ⟨T.p, 2, none⟩ = some (.slice (some ⟨T.g, 0, none⟩) T.N T.cap) := h5.nodes
    go_wp2_with fail
    refine wp_region_ph [(15, .free [])] (by kernel_rfl) (by kernel_rfl) ?_
    clear c2
    have NE := Lib.hid (fun (u : World) (hS : Below w5.heap.size w5 u ∨ (TN u { T with m := st m2 k ((m2 k).setL a), top := t2 } ∧ Mod w5 u T.p T.g)) => (show u.cell? ⟨T.p, 2, none⟩ = some (.slice (some ⟨T.g, 0, none⟩) T.N T.cap) from by (rcases hS with h | h; exact (h5.step h).nodes; exact h.1.nodes)))
    refine Ph.one 14 (fun u => Below w5.heap.size w5 u) (fun u => TN u { T with m := st m2 k ((m2 k).setL a), top := t2 } ∧ Mod w5 u T.p T.g) (by rfl) (Below.refl _ _).drew ?_
    simp only [List.drop_succ_cons, List.drop_zero, List.take_succ_cons, List.take_zero, Nat.reduceSub, Nat.sub_zero]
    iterate 3 (refine SeqO.val1 (v := ?_) (by rfl) (by rfl) (fun w1 hS => ?_) ?_; rotate_left; (· skip; go_simp; try with_reducible rfl); simp only [Act.put, List.setIfInBounds_toArray, List.set_cons_zero, List.set_cons_succ])
    iterate 1 (refine SeqO.val1 (v := ?_) (by rfl) (by rfl) (fun w1 hS => ?_) ?_; rotate_left; (· have c2 := NE.out w1 hS; go_simp; try with_reducible rfl); simp only [Act.put, List.setIfInBounds_toArray, List.set_cons_zero, List.set_cons_succ])
    iterate 4 (refine SeqO.val1 (v := ?_) (by rfl) (by rfl) (fun w1 hS => ?_) ?_; rotate_left; (· skip; go_simp; try with_reducible rfl); simp only [Act.put, List.setIfInBounds_toArray, List.set_cons_zero, List.set_cons_succ])
    iterate 1 (refine SeqO.val1 (v := ?_) (by rfl) (by rfl) (fun w1 hS => ?_) ?_; rotate_left; (· have c2 := NE.out w1 hS; go_simp; try with_reducible rfl); simp only [Act.put, List.setIfInBounds_toArray, List.set_cons_zero, List.set_cons_succ])
    iterate 5 (refine SeqO.val1 (v := ?_) (by rfl) (by rfl) (fun w1 hS => ?_) ?_; rotate_left; (· skip; go_simp; try with_reducible rfl); simp only [Act.put, List.setIfInBounds_toArray, List.set_cons_zero, List.set_cons_succ])
    refine SeqO.one (v := undef) (by rfl) (by rfl) (fun u hR K hK => ?_) ?_
    · refine wp_nf (T := { T with m := m2, top := t2 }) (k := k) (j := 14) (x := .tmp 74) (y := .tmp 71) (n := (a : Int)) (z := (m2 k).setL a) (by rfl) (by rfl) (by rfl) (h5.step hR) hk (by decide) (by rfl) ?_
      exact fun w' h' m' => hK w' ⟨h', (Mod.of_below hR).trans m'⟩
    simp only [Act.put, List.setIfInBounds_toArray, List.set_cons_zero, List.set_cons_succ]
    refine SeqO.nil1 (by decide) fun w6 hR2 => ?_
    refine Ph.last ?_
    simp only [List.drop_succ_cons, List.drop_zero, List.take_succ_cons, List.take_zero, Nat.reduceSub, Nat.sub_zero]
    obtain ⟨h6, m6⟩ := hR2
    have M6 := M5.trans m6
    clear NE M5 m6 h5
    iterate 2 (with_reducible refine wpL_val (v := ?_) ?_ ?_ ?_; rotate_left; (· kernel_rfl); (· go_simp; try with_reducible rfl); conv => arg 5; simp only [Act.put, List.setIfInBounds_toArray, List.set_cons_zero, List.set_cons_succ])
    refine wpL_nf (T := { T with m := st m2 k ((m2 k).setL a), top := t2 }) (k := k) (j := 15) (x := .tmp 76) (y := .tmp 72) (n := (hi0 : Int)) (z := ((m2 k).setL a).setR hi0) (by rfl) (by rfl) (by rfl) (by rfl) h6 hk (by decide) (by simp only [st_at]; rfl) ?_
    intro w7 h7 m7
    have M7 := M6.trans m7
    simp only [st_st] at h7
    clear h6 M6 m7
    refine wpList_nil ?_
    have c2 : w7.cell? ⟨T.p, 2, none⟩ = some (.slice (some ⟨T.g, 0, none⟩) T.N T.cap) := h7.nodes
    go_wp2_with (refine wpL_nf (T := { T with m := st m2 k (((m2 k).setL a).setR hi0), top := t2 }) (k := a) (j := 13) (x := .tmp 84) (y := .tmp 82) (n := (k : Int)) (z := (st m2 k (((m2 k).setL a).setR hi0) a).setU k) (by rfl) (by rfl) (by rfl) (by rfl) h7 ha (by decide) (by rfl) ?_; intro w8 h8 m8)
    replace h8 : TN w8 { T with m := m4, top := t2 } := by rw [← H4.out]; exact h8
    have M8 := M7.trans m8
    clear c2 h7 M7 m8 H4
    refine (againK (T := { T with m := m4, top := t2 }) w8 h8 ha HA.out).mono ?_
    rintro e w9 ⟨rfl, h9, m9⟩
    have M9 := M8.trans m9
    clear h8 M8 m9
    go_wp2_with fail
    refine (againK (T := { T with m := again m4 a, top := t2 }) w9 h9 hk HB.out).mono ?_
    rintro e w10 ⟨rfl, h10, m10⟩
    have M10 := M9.trans m10
    clear h9 M9 m10
    go_wp2_with fail
    exact bodyPost_ret (v := .int .i64 (k : Int)) (by simp [results, Tryz.results82, go_sem, *]) rfl ⟨rfl, h10, M10⟩
end TrF
end Go.Proofs.YtbcjnckejkjfeaaGreat
namespace Go.Proofs.YtbcjnckejkjfeaaGreat
set_option linter.unusedVariables false
set_option linter.unusedSimpArgs false
open Go.RowKit Go.NP
namespace TrG
open TrP TrW TrC TrA TrF
theorem least_ex {P : Nat → Prop} : ∀ n, P n → ∃ k, P k ∧ ∀ j, P j → k ≤ j := by
  intro n
  induction n using Nat.strongRecOn with
  | _ n ih =>
    intro h
    by_cases e : ∃ j, j < n ∧ P j
    · obtain ⟨j, hj, hp⟩ := e; exact ih j hj hp
    · exact ⟨n, h, fun j hj => Nat.le_of_not_lt fun hl => e ⟨j, hl, hj⟩⟩
/-- The least number of which something is so. -/
noncomputable def least (P : Nat → Prop) : Nat := open Classical in if h : ∃ k, P k ∧ ∀ j, P j → k ≤ j then Classical.choose h else 0
theorem least_ok {P : Nat → Prop} {n : Nat} (h : P n) : P (least P) ∧ ∀ j, P j → least P ≤ j := by
  have hx := least_ex n h
  unfold least; rw [dif_pos hx]; exact Classical.choose_spec hx
/-- All places lie in the nodes, and they are not many. -/
structure In (S : List Int) (N : Nat) : Prop where
  mem : ∀ i ∈ S, 0 ≤ i ∧ i < N
  len : S.length ≤ 100000
theorem kids_of {m : M} {i : Int} {S : List Int} {N : Nat} (h : Kids2 m i S) (hS : In S N) : TrF.Kids m N i := by
  obtain ⟨l, r, h1, h2, h3, h4, h5, h6, h7⟩ := h
  have a1 := hS.mem l.ix (h5 _ (List.mem_append_left _ l.ix_all))
  have a2 := hS.mem r.ix (h5 _ (List.mem_append_right _ r.ix_all))
  have b1 := l.hgt_lt; have b2 := r.hgt_lt
  have c1 := Fit.hgt h3; have c2 := Fit.hgt h4
  have := hS.len
  refine ⟨l.ix.toNat, r.ix.toNat, ?_, by omega, ?_, by omega, ?_⟩
  · rw [h1]; omega
  · rw [h2]; omega
  · rw [Int.toNat_of_nonneg a1.1, Int.toNat_of_nonneg a2.1, c1, c2]; omega
theorem liftK {T : Tn} {a k : Nat} {S : List Int} (w : World) (h : TN w T) (ha : a < T.N) (hk : k < T.N) (hu : (T.m a).u = -1 ∨ (T.m a).u ∈ S) (hO : LiftOK T.m T.top a k S) (hS : In S T.N) :
    Calls Tryz.prog 82 #[.pointer (some ⟨T.p, 0, none⟩), .int .i64 (a : Int), .int .i64 (k : Int)] w fun e w' => e = .returned (.int .i64 (k : Int)) ∧ TN w' { T with m := (TrP.liftM T.m T.top a k).1, top := (TrP.liftM T.m T.top a k).2 } ∧ Mod w w' T.p T.g := by
  obtain ⟨h1, h2, m4, h3, h4, h5⟩ := hO
  have a1 := hS.mem _ h1
  have a2 := hS.mem _ h2
  have := liftC (lo0 := (T.m k).l.toNat) (hi0 := (T.m k).r.toNat) (m4 := m4) w h ha hk (by omega) (by omega) (by omega) (by omega) (hu.imp id (hS.mem _)) h3 rfl (kids_of h4 hS) (kids_of h5 hS)
  unfold TrP.liftM
  simp only [h3]
  exact this
section
variable (m0 : M) (all0 lv0 : List Int) (T0 : Tn) (w0 : World)
/-- The state of the mending. -/
structure St (wr : World) (at_ : Int) (k : Nat) (m : M) (t : Int) : Prop where
  tn : TN wr { T0 with m := m, top := t }
  mi : MI m0 m t at_ k all0 lv0
  mod : Mod w0 wr T0.p T0.g
end
set_option maxRecDepth 100000 in
set_option maxHeartbeats 4000000 in
theorem mendC {T : Tn} {at0 : Int} {k0 : Nat} {m0 : M} {all0 lv0 : List Int} (w : World) (h : TN w T) (hI : MI m0 T.m T.top at0 k0 all0 lv0) (hS : In all0 T.N) :
    Calls Tryz.prog 62 #[.pointer (some ⟨T.p, 0, none⟩), .int .i64 at0] w fun e w' => e = .returned (.tuple #[]) ∧ ∃ m t k, TN w' { T with m := m, top := t } ∧ MI m0 m t (-1) k all0 lv0 ∧ Mod w w' T.p T.g := by
  have H0 : St m0 all0 lv0 T w w at0 k0 T.m T.top := ⟨h, hI, Mod.refl _ _ _⟩
  have HS := Lib.hid hS
  clear h hI hS
  go_enter Tryz.func62, Tryz.ntmps62
  go_wp2_with fail
  go_loopw [1] (fun i wr => ∃ (a : Int) (k : Nat) (m : M) (t : Int), i = .int .i64 a ∧ St m0 all0 lv0 T w wr a k m t) (fun i wr => least (fun k => ∃ m t, St m0 all0 lv0 T w wr (RowKit.intOf i) k m t))
  case atStart => exact ⟨at0, k0, T.m, T.top, rfl, H0⟩
  case round =>
    obtain ⟨a, k1, m1, t1, rfl, hst⟩ := hrel
    obtain ⟨⟨m, t, hst⟩, _⟩ := least_ok (P := fun k => ∃ m t, St m0 all0 lv0 T w wr a k m t) ⟨m1, t1, hst⟩
    obtain ⟨k, hk⟩ : ∃ k, least (fun k => ∃ m t, St m0 all0 lv0 T w wr a k m t) = k := ⟨_, rfl⟩
    rw [hk] at hst
    have HK := Lib.hid hk
    clear hk H0
    by_cases e : a = -1
    · subst e
      have F := Lib.hid hst
      clear hst HK
      go_wp2_with fail
      go_end0
      exact ⟨rfl, m, t, k, F.out.tn, F.out.mi, F.out.mod⟩
    · have e1 : (a != -1) = true := by simpa using e
      obtain ⟨k', hk', hM, hO⟩ := hst.mi.step e
      obtain ⟨i, rfl⟩ : ∃ i : Nat, a = i := ⟨a.toNat, by have := HS.out.mem _ hO.me; omega⟩
      have hiN : i < T.N := by have := HS.out.mem _ hO.me; omega
      have FIN := Lib.hid (fun (w' : World) (a' : Int) (m' : M) (t' : Int) (hs : St m0 all0 lv0 T w w' a' k' m' t') => (show (∃ (a : Int) (k : Nat) (m : M) (t : Int), Value.int .i64 a' = .int .i64 a ∧ St m0 all0 lv0 T w w' a k m t) ∧
          least (fun k => ∃ m t, St m0 all0 lv0 T w w' (RowKit.intOf (.int .i64 a')) k m t) < least (fun k => ∃ m t, St m0 all0 lv0 T w wr (RowKit.intOf (.int .i64 (i : Int))) k m t) from
        ⟨⟨a', k', m', t', rfl, hs⟩, Nat.lt_of_le_of_lt ((least_ok (P := fun k => ∃ m t, St m0 all0 lv0 T w w' a' k m t) (n := k') ⟨m', t', hs⟩).2 k' ⟨m', t', hs⟩) (by have := HK.out; show k' < least (fun k => ∃ m t, St m0 all0 lv0 T w wr (i : Int) k m t); omega)⟩))
      have HO := Lib.hid hO
      have HM := Lib.hid hM
      have hT := Lib.hid hst.tn
      have hMo := hst.mod
      clear hst hM hO e
      go_wp2_with fail
      refine (againK (T := { T with m := m, top := t }) wr hT.out hiN (kids_of HO.out.kids HS.out)).mono ?_
      rintro e w1 ⟨rfl, h1, m1⟩
      have M1 := hMo.trans m1
      obtain ⟨m2, hm2⟩ : ∃ m2, TrP.again m i = m2 := ⟨_, rfl⟩
      have hme : mend1 m t i = if (m2 (m2 i).r).h - (m2 (m2 i).l).h > 1 then ((TrP.liftM m2 t i (m2 i).r).1, (TrP.liftM m2 t i (m2 i).r).2, (m2 i).r) else if (m2 (m2 i).r).h - (m2 (m2 i).l).h < -1 then ((TrP.liftM m2 t i (m2 i).l).1, (TrP.liftM m2 t i (m2 i).l).2, (m2 i).l) else (m2, t, (i : Int)) := by unfold mend1; rw [hm2]
      obtain ⟨O1, O2, O3, O4, O5, O6⟩ := HO.out
      rw [hm2] at O2 O4 O5 O6
      replace h1 : TN w1 { T with m := m2, top := t } := by rw [← hm2]; exact h1
      clear HO O1 O3 hm2 hMo hT m1
      have KK := kids_of O2 HS.out
      obtain ⟨p, q, hp, hpN, hq, hqN, b1, b2, b3, b4⟩ := KK
      rw [hp, hq] at hme
      have R5 := Lib.hid O5; have R6 := Lib.hid O6; have RU := Lib.hid O4; have ME := Lib.hid hme
      clear O2 O4 O5 O6 hme
      have hat : At' w1 T.g (i * 17) (ndv (m2 i)) := TN.at h1 hiN
      have c2 : w1.cell? ⟨T.p, 2, none⟩ = some (.slice (some ⟨T.g, 0, none⟩) T.N T.cap) := h1.nodes
      have i0 : 0 ≤ (i : Int) ∧ (i : Int) < T.N := by omega
      go_wp2_with (refine wpL_at (l := ndv (m2 i)) (by rfl) (by rfl) hat Tryz.underlying73 (by rfl) (szN _) (by kernel_rfl) ?_; (conv => arg 5; simp only [Act.put, List.setIfInBounds_toArray, List.set_cons_zero, List.set_cons_succ]); refine wpL_go (v := .pointer (some ⟨w1.heap.size, 0, none⟩)) (w' := w1.alloc (.cells [.int .i64 0, .int .i64 0, .int .i64 0, .int .i64 0, .int .i64 0, .int .i64 0, .int .i64 0, .int .i64 0, .int .i64 0, .int .i64 0, .int .i64 0, .int .i64 0, .int .i64 0, .int .i64 0, .int .i64 0, .int .i64 0, .int .i64 0].toArray 73)) (by kernel_rfl) (by go_simp) ?_; (conv => arg 5; simp only [Act.put, List.setIfInBounds_toArray, List.set_cons_zero, List.set_cons_succ]); refine wpL_store (cs := ndv (m2 i)) (by rfl) (by rfl) (by rfl) (Box.new rfl) (szN _) (by rfl) (nd_one _) (by kernel_rfl) ?_; (conv => arg 5; simp only [Act.put, List.setIfInBounds_toArray, List.set_cons_zero, List.set_cons_succ]); rw [alloc_setRow]; refine wpList_nil ?_)
      have hS2 : Below w1.heap.size w1 (w1.alloc (.cells (ndv (m2 i)).toArray 73)) := (Below.refl _ _).alloc (Nat.le_refl _) _
      have B2 : Box (w1.alloc (.cells (ndv (m2 i)).toArray 73)) w1.heap.size (ndv (m2 i)) 73 := Box.new rfl
      revert hS2 B2
      generalize w1.alloc (.cells (ndv (m2 i)).toArray 73) = w2
      obtain ⟨g1, hg1⟩ : ∃ g1, w1.heap.size = g1 := ⟨_, rfl⟩
      intro hS2 B2
      have h2 := h1.step hS2
      have M2 := M1.trans (Mod.of_below (p := T.p) (g := T.g) hS2)
      rw [hg1] at B2
      rw [hg1]
      clear h1 M1 c2 hat hS2 hg1
      have B3 := Lib.hid B2; have H2 := Lib.hid h2
      have c2 : w2.cell? ⟨T.p, 2, none⟩ = some (.slice (some ⟨T.g, 0, none⟩) T.N T.cap) := h2.nodes
      have cl : w2.cell? ⟨g1, 14, none⟩ = some (.int .i64 (p : Int)) := by rw [B2.cell, ← hp]; rfl
      have cr : w2.cell? ⟨g1, 15, none⟩ = some (.int .i64 (q : Int)) := by rw [B2.cell, ← hq]; rfl
      have hgg : g1 < w2.heap.size := B2.lt
      have chp : w2.cell? ⟨T.g, p * 17 + 16, none⟩ = some (.int .i64 (m2 p).h) := h2.cell hpN rfl
      have chq : w2.cell? ⟨T.g, q * 17 + 16, none⟩ = some (.int .i64 (m2 q).h) := h2.cell hqN rfl
      obtain ⟨hgp, hgl⟩ := TN.lt h2
      have hgp : T.p < w2.heap.size := hgp
      have hgl : T.g < w2.heap.size := hgl
      have p0 : 0 ≤ (p : Int) ∧ (p : Int) < T.N := by omega
      have q0 : 0 ≤ (q : Int) ∧ (q : Int) < T.N := by omega
      clear B2 h2
      go_wp2_with fail
      refine wp_region_ph [(20, .free [])] (by kernel_rfl) (by kernel_rfl) ?_
      refine Ph.belowd ?_
      simp only [List.drop_succ_cons, List.drop_zero, List.take_succ_cons, List.take_zero, Nat.reduceSub, Nat.sub_zero]
      iterate 20 (refine SeqO.val (v := ?_) (by rfl) (by rfl) (fun w1 hS => ?_) ?_; rotate_left; (· obtain ⟨hc, hcf⟩ := bcell hS; go_simp; try with_reducible rfl); simp only [Act.put, List.setIfInBounds_toArray, List.set_cons_zero, List.set_cons_succ])
      refine SeqO.nil0 fun w3 hS3 => ?_
      refine Ph.last ?_
      simp only [List.drop_succ_cons, List.drop_zero, List.take_succ_cons, List.take_zero, Nat.reduceSub, Nat.sub_zero]
      refine wpList_nil ?_
      clear c2 cl cr hgg chp chq hgp hgl
      have H3 := Lib.hid (H2.out.step hS3)
      have B4 := Lib.hid (B3.out.step hS3)
      have M3 := M2.trans (Mod.of_below (p := T.p) (g := T.g) hS3)
      clear H2 B3 hS3 M2
      have dv : IntKind.i64.wrap ((m2 q).h - (m2 p).h) = (m2 q).h - (m2 p).h := by rw [IntKind.wrap_i64]; omega
      rw [dv]
      clear dv
      have cl : w3.cell? ⟨g1, 14, none⟩ = some (.int .i64 (p : Int)) := by rw [B4.out.cell, ← hp]; rfl
      have cr : w3.cell? ⟨g1, 15, none⟩ = some (.int .i64 (q : Int)) := by rw [B4.out.cell, ← hq]; rfl
      have c2 : w3.cell? ⟨T.p, 2, none⟩ = some (.slice (some ⟨T.g, 0, none⟩) T.N T.cap) := H3.out.nodes
      have cu : w3.cell? ⟨T.g, i * 17 + 13, none⟩ = some (.int .i64 (m2 i).u) := H3.out.cell hiN rfl
      go_wp2_with fail
      · rename_i hd
        clear cl cr c2 cu
        have LO := R5.out (by rw [hq, hp]; omega)
        rw [hq] at LO
        refine (liftK (T := { T with m := m2, top := t }) (k := q) w3 H3.out hiN hqN RU.out LO HS.out).mono ?_
        rintro e w4 ⟨rfl, h4, m4⟩
        have M4 := M3.trans m4
        have me := ME.out
        rw [if_pos (by omega)] at me
        have HM2 := HM.out
        rw [me] at HM2
        clear HM ME me R5 R6 LO RU H3 B4 M3 m4
        revert h4 HM2
        generalize (TrP.liftM m2 t (i : Int) (q : Int)).1 = mm
        generalize (TrP.liftM m2 t (i : Int) (q : Int)).2 = tt
        intro h4 HM2
        have H4 := Lib.hid h4
        have HM3 := Lib.hid HM2
        have c2 : w4.cell? ⟨T.p, 2, none⟩ = some (.slice (some ⟨T.g, 0, none⟩) T.N T.cap) := h4.nodes
        have cu : w4.cell? ⟨T.g, q * 17 + 13, none⟩ = some (.int .i64 (mm q).u) := h4.cell hqN rfl
        clear h4 HM2
        go_wp2_with fail
        exact FIN.out w4 _ _ _ ⟨H4.out, HM3.out, M4⟩
      · rename_i hd
        clear cl cr c2 cu
        have LO := R6.out (by rw [hq, hp]; omega)
        rw [hp] at LO
        refine (liftK (T := { T with m := m2, top := t }) (k := p) w3 H3.out hiN hpN RU.out LO HS.out).mono ?_
        rintro e w4 ⟨rfl, h4, m4⟩
        have M4 := M3.trans m4
        have me := ME.out
        rw [if_neg (by omega), if_pos (by omega)] at me
        have HM2 := HM.out
        rw [me] at HM2
        clear HM ME me R5 R6 LO RU H3 B4 M3 m4
        revert h4 HM2
        generalize (TrP.liftM m2 t (i : Int) (p : Int)).1 = mm
        generalize (TrP.liftM m2 t (i : Int) (p : Int)).2 = tt
        intro h4 HM2
        have H4 := Lib.hid h4
        have HM3 := Lib.hid HM2
        have c2 : w4.cell? ⟨T.p, 2, none⟩ = some (.slice (some ⟨T.g, 0, none⟩) T.N T.cap) := h4.nodes
        have cu : w4.cell? ⟨T.g, p * 17 + 13, none⟩ = some (.int .i64 (mm p).u) := h4.cell hpN rfl
        clear h4 HM2
        go_wp2_with fail
        exact FIN.out w4 _ _ _ ⟨H4.out, HM3.out, M4⟩
      · rename_i hd1 hd2
        have me := ME.out
        rw [if_neg (by omega), if_neg (by omega)] at me
        have HM2 := HM.out
        rw [me] at HM2
        exact FIN.out w3 _ _ _ ⟨H3.out, HM2, M3⟩
end TrG
end Go.Proofs.YtbcjnckejkjfeaaGreat
namespace Go.Proofs.YtbcjnckejkjfeaaGreat
set_option linter.unusedVariables false
set_option linter.unusedSimpArgs false
open Go.RowKit Go.NP
namespace QVl
/-- A slice of one-cell values. -/
def SlV (w : World) (A : Option Addr) (n : Nat) (l : List Value) : Prop := l.length = n ∧ (0 < n → ∃ b off, A = some ⟨b, off, none⟩ ∧ b < w.heap.size ∧ ∀ k v, l[k]? = some v → w.cell? ⟨b, off + k, none⟩ = some v)
theorem SlV.step {w w' : World} {A : Option Addr} {n : Nat} {l : List Value} (h : SlV w A n l) (hS : Below w.heap.size w w') : SlV w' A n l :=
  ⟨h.1, fun hn => by
    obtain ⟨b, off, e, hb, h2⟩ := h.2 hn
    exact ⟨b, off, e, by have := hS.size; omega, fun k v hk => by rw [World.cell?_of_block (hS.block b hb)]; exact h2 k v hk⟩⟩
/-- .. of one's own. -/
def OwnV (w : World) (base : Nat) (T : TypeId) (v : Value) (l : List Value) : Prop := w.ownsRow base T 1 v l.length l
theorem OwnV.sl {w : World} {base : Nat} {T : TypeId} {v : Value} {l : List Value} (h : OwnV w base T v l) : ∃ A cap, v = .slice A l.length cap ∧ SlV w A l.length l ∧ ((A = none ∧ cap = 0 ∧ l = []) ∨ ∃ g, A = some ⟨g, 0, none⟩) ∧ l.length ≤ cap := by
  rcases h.2 with ⟨rfl, h0⟩ | ⟨g, cap, cur, rfl, hb, hg, hc, hm, hsz, hx⟩
  · exact ⟨none, 0, by rw [h0], ⟨rfl, fun h => absurd h (by omega)⟩, .inl ⟨rfl, rfl, List.eq_nil_of_length_eq_zero h0⟩, by omega⟩
  · refine ⟨some ⟨g, 0, none⟩, cap, rfl, ⟨rfl, fun _ => ⟨g, 0, rfl, (Array.getElem?_eq_some_iff.1 hg).1, fun k u hk => ?_⟩⟩, .inr ⟨g, rfl⟩, hc⟩
    have hk' := get_lt hk
    rw [← hx, List.getElem?_take_of_lt (by omega)] at hk
    simp only [World.cell?, hg, Nat.zero_add]
    simpa using hk
theorem OwnV.nil (w : World) (base : Nat) (T : TypeId) : OwnV w base T (.slice none 0 0) [] := ⟨rfl, .inl ⟨rfl, rfl⟩⟩
theorem OwnV.block {w w' : World} {base : Nat} {T : TypeId} {v : Value} {l : List Value} (h : OwnV w base T v l) (hS : ∀ g, v.ownBlock = some g → g < w.heap.size → w'.heap[g]? = w.heap[g]?) : OwnV w' base T v l := by
  refine ⟨h.1, ?_⟩
  rcases h.2 with h1 | ⟨g, cap, cur, rfl, hb, hg, h2⟩
  · exact .inl h1
  · exact .inr ⟨g, cap, cur, rfl, hb, (hS g rfl (Array.getElem?_eq_some_iff.1 hg).1).trans hg, h2⟩
theorem OwnV.lt {w : World} {base : Nat} {T : TypeId} {v : Value} {l : List Value} (h : OwnV w base T v l) : ∀ g, v.ownBlock = some g → base ≤ g ∧ g < w.heap.size := fun g hg => by
  rcases h.2 with ⟨rfl, _⟩ | ⟨k, cap, cur, rfl, hb, hk, _⟩
  · simp [Value.ownBlock] at hg
  · obtain rfl : k = g := by simpa [Value.ownBlock] using hg
    exact ⟨hb, (Array.getElem?_eq_some_iff.1 hk).1⟩
theorem OwnV.step {w w' : World} {base : Nat} {T : TypeId} {v : Value} {l : List Value} (h : OwnV w base T v l) (hS : Below w.heap.size w w') : OwnV w' base T v l := h.block fun g _ hg => hS.block g hg
theorem OwnV.mono {w : World} {base base' : Nat} {T : TypeId} {v : Value} {l : List Value} (h : OwnV w base T v l) (hb : base' ≤ base) : OwnV w base' T v l := by
  refine ⟨h.1, ?_⟩
  rcases h.2 with h1 | ⟨g, cap, cur, h1, hb', h2⟩
  · exact .inl h1
  · exact .inr ⟨g, cap, cur, h1, by omega, h2⟩
theorem infoI : (Tryz.prog.info? 3).map (fun i => (i.zero, i.size, i.bytes)) = some (some (.int .i64 0), 1, 8) := by kernel_rfl
theorem own_new (w : World) (T : TypeId) (l : List Value) (h : l.length ≤ 1000) : OwnV (w.alloc (.cells l.toArray T)) w.heap.size T (.slice (some ⟨w.heap.size, 0, none⟩) l.length l.length) l := by
  refine ⟨by simp, .inr ⟨w.heap.size, l.length, l.toArray, rfl, Nat.le_refl _, ?_, Nat.le_refl _, ?_, by simp, ?_⟩⟩
  · exact Box.new rfl
  · simp [maxLen]; omega
  · simp
section
variable {ops : Array Oper} {r : List Oper} {o : Oper} {a : Act} {Q : Exit → Act → World → Prop} {w : World} {base g : Nat} {v t : Value} {l : List Value} {S T : TypeId} {z : Value} {by_ : Nat}
theorem wpV_app (hu : Tryz.prog.underlying S = some (.slice T)) (hi : (Tryz.prog.info? T).map (fun i => (i.zero, i.size, i.bytes)) = some (some z, 1, by_)) (hzs : z.cells.size = 1) (hby : by_ ≤ 24) (hgd : o.guard = none) (s x : Operand)
    (ho : o.op = .call { callee := .builtin .append, args := #[s, x], argTypes := #[S, S] }) (hs : a.eval s = v) (hown : OwnV w base T v l) (hx : a.eval x = .slice (some ⟨g, 0, none⟩) 1 1) (hat : w.cell? ⟨g, 0, none⟩ = some t) (h1 : t.oneCell' = true) (hl : l.length ≤ 1000000) (hb : base ≤ w.heap.size)
    (h : ∀ v' w', OwnV w' base T v' (l ++ [t]) → w.grownBy w' v.ownBlock → (v'.ownBlock = v.ownBlock ∨ v'.ownBlock = some w.heap.size) → (∀ w0, Below base w0 w → Below base w0 w') → wpList Tryz.prog ops Q r (a.put o.dst v') w') : wpList Tryz.prog ops Q (o :: r) a w := by
  obtain ⟨i0, hi0, hz0, hz1, hz2⟩ := info_parts hi
  refine wpList_append_own_at _ hgd s x S ho base T i0 z 1 by_ hu hi0 hz0 hz1 hz2 hzs (by decide) v l.length l hs hown ⟨g, 0, none⟩ 1 1 [t] hx rfl (fun j u hj => ?_) (fun u hu => by obtain rfl := List.mem_singleton.1 hu; exact h1) (by unfold maxLen; omega) ?_ hb ?_
  · have hj0 : j < 1 := get_lt hj
    obtain rfl : j = 0 := by omega
    cases hj
    exact hat
  · have := Nat.mul_le_mul_left (l.length + 1) hby; omega
  · intro v' w' h1 h2 _ h4
    refine h v' w' ?_ h2 h4 fun w0 hB => hB.grown h2 hb fun k hk => (hown.lt k hk).1
    unfold OwnV
    rw [List.length_append]
    exact h1
theorem wpV_all {A : Option Addr} {n cap : Nat} {m : List Value} (hu : Tryz.prog.underlying S = some (.slice T)) (hi : (Tryz.prog.info? T).map (fun i => (i.zero, i.size, i.bytes)) = some (some z, 1, by_)) (hzs : z.cells.size = 1) (hby : by_ ≤ 24) (hgd : o.guard = none) (s x : Operand)
    (ho : o.op = .call { callee := .builtin .append, args := #[s, x], argTypes := #[S, S] }) (hs : a.eval s = v) (hown : OwnV w base T v l) (hx : a.eval x = .slice A n cap) (hm : SlV w A n m) (hnc : A = none → cap = 0) (h1 : ∀ t ∈ m, t.oneCell' = true) (hl : l.length ≤ 1000000) (hn : n ≤ 1000000) (hb : base ≤ w.heap.size)
    (h : ∀ v' w', OwnV w' base T v' (l ++ m) → (∀ w0, Below base w0 w → Below base w0 w') → wpList Tryz.prog ops Q r (a.put o.dst v') w') : wpList Tryz.prog ops Q (o :: r) a w := by
  obtain ⟨i0, hi0, hz0, hz1, hz2⟩ := info_parts hi
  have hml := hm.1
  cases A with
  | some ad =>
    refine wpList_append_own_at _ hgd s x S ho base T i0 z 1 by_ hu hi0 hz0 hz1 hz2 hzs (by decide) v l.length l hs hown ad n cap m hx (by omega) (fun j u hj => ?_) h1 (by unfold maxLen; omega) ?_ hb ?_
    · have hj0 := get_lt hj
      obtain ⟨b, off, e, hb, h2⟩ := hm.2 (by omega)
      cases e
      have hadd : (⟨b, off, none⟩ : Addr).add j = ⟨b, off + j, none⟩ := by unfold Addr.add; split <;> simp_all
      rw [hadd]; exact h2 j u hj
    · have := Nat.mul_le_mul_left (l.length + n) hby; omega
    · intro v' w' h1 h2 _ h4
      refine h v' w' ?_ fun w0 hB => hB.grown h2 hb fun k hk => (hown.lt k hk).1
      unfold OwnV
      rw [List.length_append, hml]
      exact h1
  | none =>
    have hc := hnc rfl
    have h0 : m = [] := by
      rcases Nat.eq_zero_or_pos n with h0 | h0
      · exact List.eq_nil_of_length_eq_zero (by omega)
      · obtain ⟨_, _, e, _⟩ := hm.2 h0; cases e
    subst h0
    have hn0 : n = 0 := hml.symm
    subst hc; subst hn0
    refine wpList_append_own_none hgd s x S ho base T i0 1 hu hi0 v l.length l hs hown hx ?_
    exact h v w (by rw [List.append_nil]; exact hown) (fun w0 hB => hB)
end
end QVl
end Go.Proofs.YtbcjnckejkjfeaaGreat
