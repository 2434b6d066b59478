/- A node reckoned anew: the walk. Condition: the node and its two are there, their heights not great. -/
import Derived.Test.YtbcjnckejkjfeaaTrC
namespace Go.Proofs.Ytbcjnckejkjfeaa
set_option linter.unusedVariables false
set_option linter.unusedSimpArgs false
open Go.RowKit Go.NP
namespace TrA
open TrP TrW TrC
theorem cfJ (args : Array Value) (w1 : World) : (callFunc 56 args).run Try.prog w1 = .ok (.enter 56 args) w1 := enters Try.func56 (by kernel_rfl) (by kernel_rfl) args w1
theorem TN.at {w : World} {T : Tn} (h : TN w T) {i : Nat} (hi : i < T.N) : At' w T.g (i * 17) (ndv (T.m i)) := fun j v hv => h.cell hi hv
theorem TN.lt {w : World} {T : Tn} (h : TN w T) : T.p < w.heap.size ∧ T.g < w.heap.size := by
  obtain ⟨L, hb, _⟩ := h.row
  exact ⟨h.box.lt, hb.lt⟩
theorem below_row {B g : Nat} {w0 w : World} (h : Below B w0 w) (hg : B ≤ g) (cs : Array Value) : Below B w0 (w.setRow g cs) :=
  h.trans ⟨rfl, rfl, rfl, by simp [World.setRow], fun k hk => setRow_other w g k cs (by omega)⟩
theorem nd_one (x : Nd) : (ndv x).toArray.all (·.oneCell') = true := by simp [ndv, bdv, Value.oneCell']
theorem szN (x : Nd) : (Try.prog.info? 71).map (·.size) = some (ndv x).length := by rw [ndv_len]; kernel_rfl
theorem ptr_ne {x y : Value} {g1 g2 : Nat} (h1 : x = .pointer (some ⟨g1, 0, none⟩)) (h2 : y = .pointer (some ⟨g2, 0, none⟩)) (h : x ≠ y) : ¬ g1 = g2 := fun e => h (by rw [h1, h2, e])
theorem st_st (m : M) (i : Int) (x y : Nd) : st (st m i x) i y = st m i y := by funext k; unfold st; split <;> rfl
theorem st_self (m : M) (i : Int) (x y : Nd) : st (st m i x) i y = st m i y := st_st m i x y
/-- A node's fat bound is written. -/
theorem TN.putFat {w : World} {T : Tn} (h : TN w T) {k : Nat} (hk : k < T.N) (b : Bd) : TN (w.setCells T.g (k * 17) (bdv b)) { T with m := st T.m k { T.m k with fat := b } } := by
  have h1 := h.put (v := .int .i64 b.lo.x) (x := { T.m k with fat := ⟨⟨b.lo.x, (T.m k).fat.lo.y, (T.m k).fat.lo.z⟩, (T.m k).fat.hi⟩ }) hk (show 0 < 17 by omega) rfl
  have h2 := h1.put (v := .int .i64 b.lo.y) (x := { T.m k with fat := ⟨⟨b.lo.x, b.lo.y, (T.m k).fat.lo.z⟩, (T.m k).fat.hi⟩ }) hk (show 1 < 17 by omega) (by simp only [st_at]; rfl)
  have h3 := h2.put (v := .int .i64 b.lo.z) (x := { T.m k with fat := ⟨b.lo, (T.m k).fat.hi⟩ }) hk (show 2 < 17 by omega) (by simp only [st_at]; rfl)
  have h4 := h3.put (v := .int .i64 b.hi.x) (x := { T.m k with fat := ⟨b.lo, ⟨b.hi.x, (T.m k).fat.hi.y, (T.m k).fat.hi.z⟩⟩ }) hk (show 3 < 17 by omega) (by simp only [st_at]; rfl)
  have h5 := h4.put (v := .int .i64 b.hi.y) (x := { T.m k with fat := ⟨b.lo, ⟨b.hi.x, b.hi.y, (T.m k).fat.hi.z⟩⟩ }) hk (show 4 < 17 by omega) (by simp only [st_at]; rfl)
  have h6 := h5.put (v := .int .i64 b.hi.z) (x := { T.m k with fat := b }) hk (show 5 < 17 by omega) (by simp only [st_at]; rfl)
  simp only [st_st] at h6
  exact h6
theorem Mod.cells {w1 : World} {p g : Nat} : ∀ (vs : List Value) (o : Nat) (w2 : World), Mod w1 w2 p g → Mod w1 (w2.setCells g o vs) p g
  | [], _, _, h => h
  | v :: r, o, w2, h => Mod.cells r (o + 1) _ (h.cell (.inr rfl) v)
theorem box_cells {b g : Nat} {L : List Value} {Ty : TypeId} (hne : g ≠ b) : ∀ (vs : List Value) (o : Nat) (w2 : World), Box w2 b L Ty → Box (w2.setCells g o vs) b L Ty
  | [], _, _, h => h
  | v :: r, o, w2, h => box_cells hne r (o + 1) _ (h.other hne v)
theorem TN.there {w : World} {T : Tn} (h : TN w T) {k : Nat} (hk : k < T.N) : w.there T.g (k * 17) 6 := fun j hj => by
  refine ⟨?_, h.free _⟩
  obtain ⟨v, hv⟩ : ∃ v, (ndv (T.m k))[j]? = some v := ⟨_, List.getElem?_eq_getElem (by rw [ndv_len]; omega)⟩
  rw [h.cell hk hv]; rfl
theorem TN.rowOther {w : World} {T : Tn} (h : TN w T) {g : Nat} (h1 : g ≠ T.p) (h2 : g ≠ T.g) (cs : Array Value) : TN (w.setRow g cs) T := by
  obtain ⟨L, hb, hl, hc⟩ := h.row
  exact ⟨h.box.rowOther (fun e => h1 e.symm) cs, ⟨L, hb.rowOther (fun e => h2 e.symm) cs, hl, hc⟩, h.cap, h.ne, h.small⟩
theorem TN.drew {w : World} {T : Tn} (h : TN w T) : TN w.drew T := h.step ((Below.refl _ _).drew)
section
variable {P : Program} {Q : Exit → Act → World → Prop} {ls es : List Nat} {Te : List (Nat × Option Tmp) → Act → Prop} {ops : Array Oper} {r : List Oper} {acc : List (Nat × Option Tmp)} {a : Act} {v : Value} {i i0 : Nat} {R1 R2 : World → Prop}
/-- A call that makes new blocks alone, ahead of the operation that changes the world or behind it. -/
theorem SeqO.callv1 {dst : Option Tmp} {x : Operand} {f : FuncId} {ca : Array Value} {xs : Array Operand} {ats : Array TypeId} {ty : TypeId} {pos : String} {after : Array Edge} {guard : Option (Nat × Bool)} {args : Array Value}
    (hi : (!ls.contains i && !es.contains i && i != i0) = true)
    (hw : Region.wanted { dst, op := .call { callee := .value x, args := xs, argTypes := ats }, type := ty, pos, after, guard } (yielded ops a.tmps) = true) (hx : a.eval x = .func (.func f) #[] ca)
    (hcf : ∀ args w1, (callFunc f args).run P w1 = .ok (.enter f args) w1) (hargs : #[] ++ xs.map a.eval ++ ca = args)
    (h3 : ∀ w, R1 w ∨ R2 w → Calls P f args w fun e w' => e = .returned v ∧ (R1 w → R1 w') ∧ (R2 w → R2 w')) (h2 : SeqO P ops Q (SOne i0 R1 R2) ls es Te (i + 1) r acc (a.put dst v)) :
    SeqO P ops Q (SOne i0 R1 R2) ls es Te i ({ dst, op := .call { callee := .value x, args := xs, argTypes := ats }, type := ty, pos, after, guard } :: r) acc a := by
  simp only [Bool.and_eq_true, Bool.not_eq_true'] at hi
  unfold SeqO
  rw [if_neg (by rw [hi.1.1]; simp)]
  refine ⟨v, fun L u w hL hS K hK => ?_, fun h => (by rw [hi.1.2] at h; cases h), h2⟩
  rw [if_pos hw]
  simp only [Oper.wp, execOp_call_val hx, hcf, hargs, Oper.upon]
  refine (h3 w (by unfold SOne at hS; split at hS; exact .inr hS; exact .inl hS)).mono fun e w' ⟨he, h1, h2'⟩ => ?_
  subst he
  refine hK w' (sOne_mark hi.2 ?_)
  unfold SOne at *
  split
  · rename_i hl; rw [if_pos hl] at hS; exact h2' hS
  · rename_i hl; rw [if_neg hl] at hS; exact h1 hS
end
set_option maxRecDepth 100000 in
set_option maxHeartbeats 4000000 in
theorem againC {T : Tn} {i lk rk : Nat} (w : World) (h : TN w T) (hi : i < T.N) (hl : (T.m i).l = lk) (hlk : lk < T.N) (hr : (T.m i).r = rk) (hrk : rk < T.N) (hh : 0 ≤ (T.m lk).h ∧ (T.m lk).h ≤ 100000 ∧ 0 ≤ (T.m rk).h ∧ (T.m rk).h ≤ 100000) :
    Calls Try.prog 70 #[.pointer (some ⟨T.p, 0, none⟩), .int .i64 (i : Int)] w fun e w' => e = .returned (.tuple #[]) ∧ TN w' { T with m := again T.m i } ∧ Mod w w' T.p T.g := by
  have HT := Lib.hid h
  have c2 := h.nodes
  have i0 : 0 ≤ (i : Int) ∧ (i : Int) < T.N := by omega
  have l0 : 0 ≤ (lk : Int) ∧ (lk : Int) < T.N := by omega
  have r0 : 0 ≤ (rk : Int) ∧ (rk : Int) < T.N := by omega
  have cl := h.cell hi (j := 14) rfl
  have cr := h.cell hi (j := 15) rfl
  rw [hl] at cl; rw [hr] at cr
  obtain ⟨hgp, hgl⟩ := TN.lt h
  have al := Lib.hid (TN.at h hlk)
  have ar := Lib.hid (TN.at h hrk)
  have HH := Lib.hid hh
  clear h hh
  go_enter Try.func70, Try.ntmps70
  iterate 3 go_step
  iterate 7 (with_reducible refine wpL_val (v := ?_) ?_ ?_ ?_; rotate_left; (· kernel_rfl); (· go_simp; try with_reducible rfl); conv => arg 5; simp only [Act.put, List.setIfInBounds_toArray, List.set_cons_zero, List.set_cons_succ])
  refine wpList_nil ?_
  iterate 3 go_step
  refine wp_region_ph [(23, .fre [20, 21, 22] [22])] (by kernel_rfl) (by kernel_rfl) ?_
  refine Ph.filld [(20, [.int .i64 0, .int .i64 0, .int .i64 0, .int .i64 0, .int .i64 0, .int .i64 0, .int .i64 0, .int .i64 0, .int .i64 0, .int .i64 0, .int .i64 0, .int .i64 0, .int .i64 0, .int .i64 0, .int .i64 0, .int .i64 0, .int .i64 0], 71), (21, [.int .i64 0, .int .i64 0, .int .i64 0, .int .i64 0, .int .i64 0, .int .i64 0, .int .i64 0, .int .i64 0, .int .i64 0, .int .i64 0, .int .i64 0, .int .i64 0, .int .i64 0, .int .i64 0, .int .i64 0, .int .i64 0, .int .i64 0], 71)] 22 20 (ndv (T.m lk)) (by rfl) (fun d c a v w h => by cases d <;> exact h) ?_
  simp only [List.drop_succ_cons, List.drop_zero, List.take_succ_cons, List.take_zero, Nat.reduceSub, Nat.sub_zero]
  iterate 9 (refine SeqO.valR (v := ?_) (by rfl) (by rfl) (fun w1 hS => ?_) ?_; rotate_left; (· obtain ⟨hc, hcf⟩ := bcell hS; go_simp; try with_reducible rfl); simp only [Act.put, List.setIfInBounds_toArray, List.set_cons_zero, List.set_cons_succ])
  refine SeqO.valR (v := .agg (ndv (T.m lk)).toArray) (by rfl) (by rfl) (fun w1 hS => run_load_part (by rfl) (by rfl) (al.out.step hgl hS) Try.underlying71 (by rfl) (szN _)) ?_
  simp only [Act.put, List.setIfInBounds_toArray, List.set_cons_zero, List.set_cons_succ]
  iterate 9 (refine SeqO.valR (v := ?_) (by rfl) (by rfl) (fun w1 hS => ?_) ?_; rotate_left; (· obtain ⟨hc, hcf⟩ := bcell hS; go_simp; try with_reducible rfl); simp only [Act.put, List.setIfInBounds_toArray, List.set_cons_zero, List.set_cons_succ])
  refine SeqO.valR (v := .agg (ndv (T.m rk)).toArray) (by rfl) (by rfl) (fun w1 hS => run_load_part (by rfl) (by rfl) (ar.out.step hgl hS) Try.underlying71 (by rfl) (szN _)) ?_
  simp only [Act.put, List.setIfInBounds_toArray, List.set_cons_zero, List.set_cons_succ]
  refine SeqO.allocR (cs := [.int .i64 0, .int .i64 0, .int .i64 0, .int .i64 0, .int .i64 0, .int .i64 0, .int .i64 0, .int .i64 0, .int .i64 0, .int .i64 0, .int .i64 0, .int .i64 0, .int .i64 0, .int .i64 0, .int .i64 0, .int .i64 0, .int .i64 0]) (Ty := 71) (by rfl) ⟨71, by simp⟩ (by rfl) (by simp) (by rfl) (fun w => by go_simp) ?_
  refine SeqO.allocR (cs := [.int .i64 0, .int .i64 0, .int .i64 0, .int .i64 0, .int .i64 0, .int .i64 0, .int .i64 0, .int .i64 0, .int .i64 0, .int .i64 0, .int .i64 0, .int .i64 0, .int .i64 0, .int .i64 0, .int .i64 0, .int .i64 0, .int .i64 0]) (Ty := 71) (by rfl) ⟨71, by simp⟩ (by rfl) (by simp) (by rfl) (fun w => by go_simp) ?_
  refine SeqO.fillR (cs := [.int .i64 0, .int .i64 0, .int .i64 0, .int .i64 0, .int .i64 0, .int .i64 0, .int .i64 0, .int .i64 0, .int .i64 0, .int .i64 0, .int .i64 0, .int .i64 0, .int .i64 0, .int .i64 0, .int .i64 0, .int .i64 0, .int .i64 0]) (Ty := 71) (d := some 5) (fun w g => w.setRow g (ndv (T.m lk)).toArray) (by rfl) (by simp) (by simp) rfl (by simp) (fun u => by rfl) (fun u g w hu hb => ?_) (fun w g hb => hb.row _) (fun w g b c Tb hne hb => hb.rowOther hne _) (fun w g hw hg => below_row hw hg _) ?_
  · simp only [List.nil_append, List.cons_append, List.foldl_cons, List.foldl_nil, hu]
    exact run_store_row (by rfl) (by rfl) (by rfl) hb (szN _) (by rfl) (nd_one _)
  refine SeqO.nilR (by omega) fun L u w8 hL hA => ?_
  obtain ⟨g1, hg1, he1, hb1⟩ := hA.made (20, ndv (T.m lk), 71) (by simp [fillAl]) (hL 20 (by omega))
  obtain ⟨g2, hg2, he2, hb2⟩ := hA.made (21, [.int .i64 0, .int .i64 0, .int .i64 0, .int .i64 0, .int .i64 0, .int .i64 0, .int .i64 0, .int .i64 0, .int .i64 0, .int .i64 0, .int .i64 0, .int .i64 0, .int .i64 0, .int .i64 0, .int .i64 0, .int .i64 0, .int .i64 0], 71) (by simp [fillAl]) (hL 21 (by omega))
  have n1 : ¬ g1 = g2 := ptr_ne hg1 hg2 (hA.ne (20, ndv (T.m lk), 71) (by simp [fillAl]) (21, [.int .i64 0, .int .i64 0, .int .i64 0, .int .i64 0, .int .i64 0, .int .i64 0, .int .i64 0, .int .i64 0, .int .i64 0, .int .i64 0, .int .i64 0, .int .i64 0, .int .i64 0, .int .i64 0, .int .i64 0, .int .i64 0, .int .i64 0], 71) (by simp [fillAl]) (hL 20 (by omega)) (hL 21 (by omega)) (by simp))
  have hS := hA.below
  clear hA hL
  simp only [List.nil_append, List.cons_append, List.foldl_cons, List.foldl_nil, hg1, hg2]
  refine Ph.last ?_
  simp only [List.drop_succ_cons, List.drop_zero, List.take_succ_cons, List.take_zero, Nat.reduceSub, Nat.sub_zero]
  have hb2 : Box w8 g2 [.int .i64 0, .int .i64 0, .int .i64 0, .int .i64 0, .int .i64 0, .int .i64 0, .int .i64 0, .int .i64 0, .int .i64 0, .int .i64 0, .int .i64 0, .int .i64 0, .int .i64 0, .int .i64 0, .int .i64 0, .int .i64 0, .int .i64 0] 71 := hb2
  refine wpL_store (cs := ndv (T.m rk)) (by rfl) (by rfl) (by rfl) hb2 (szN _) (by rfl) (nd_one _) (by kernel_rfl) ?_
  conv => arg 5; simp only [Act.put, List.setIfInBounds_toArray, List.set_cons_zero, List.set_cons_succ]
  refine wpList_nil ?_
  have he1 : w.heap.size ≤ g1 := he1
  have he2 : w.heap.size ≤ g2 := he2
  have hb1 : Box w8 g1 (ndv (T.m lk)) 71 := hb1
  have T9 : TN (w8.setRow g2 (ndv (T.m rk)).toArray) T := TN.rowOther (HT.out.step hS) (by omega) (by omega) _
  have B1 : Box (w8.setRow g2 (ndv (T.m rk)).toArray) g1 (ndv (T.m lk)) 71 := hb1.rowOther n1 _
  have B2 : Box (w8.setRow g2 (ndv (T.m rk)).toArray) g2 (ndv (T.m rk)) 71 := hb2.row _
  have S9 := below_row hS he2 (ndv (T.m rk)).toArray
  clear hg1 hg2 hb1 hb2 hS c2 cl cr al ar HT
  revert T9 B1 B2 S9
  generalize w8.setRow g2 (ndv (T.m rk)).toArray = w9
  intro T9 B1 B2 S9
  iterate 2 go_step
  refine wp_region_ph [(16, .free [])] (by kernel_rfl) (by kernel_rfl) ?_
  replace T9 := TN.drew T9
  replace B1 := B1.drew
  replace B2 := B2.drew
  replace S9 := S9.drew
  revert T9 B1 B2 S9
  generalize w9.drew = w9
  intro T9 B1 B2 S9
  have L' := hl
  obtain ⟨x, hx⟩ : ∃ x, T.m lk = x := ⟨_, rfl⟩
  obtain ⟨y, hy⟩ : ∃ y, T.m rk = y := ⟨_, rfl⟩
  have hhh := HH.out
  rw [hx, hy] at hhh
  rw [hx] at B1
  rw [hy] at B2
  simp only [hx, hy]
  have mx : 0 ≤ 1 + max x.h y.h ∧ 1 + max x.h y.h ≤ 999999 := by omega
  have v1 : IntKind.i64.wrap (1 + max x.h y.h) = 1 + max x.h y.h := by rw [IntKind.wrap_i64]; omega
  have v2 : wrap64 (1 + max x.h y.h) = 1 + max x.h y.h := by unfold wrap64; omega
  have CE := Lib.hid (fun (u : World) (hS : Below w9.heap.size w9 u ∨ (TN u { T with m := st T.m i { T.m i with fat := join x.fat y.fat } } ∧ Mod w9 u T.p T.g ∧ Box u g1 (ndv x) 71 ∧ Box u g2 (ndv y) 71)) => (show Box u g1 (ndv x) 71 ∧ Box u g2 (ndv y) 71 from by
    rcases hS with h | h
    · exact ⟨B1.step h, B2.step h⟩
    · exact h.2.2))
  refine Ph.one 15 (fun u => Below w9.heap.size w9 u) (fun u => TN u { T with m := st T.m i { T.m i with fat := join x.fat y.fat } } ∧ Mod w9 u T.p T.g ∧ Box u g1 (ndv x) 71 ∧ Box u g2 (ndv y) 71) (by rfl) (Below.refl _ _) ?_
  simp only [List.drop_succ_cons, List.drop_zero, List.take_succ_cons, List.take_zero, Nat.reduceSub, Nat.sub_zero]
  iterate 3 (refine SeqO.val1 (v := ?_) (by rfl) (by rfl) (fun w1 hS => ?_) ?_; rotate_left; (· skip; go_simp; try with_reducible rfl); simp only [Act.put, List.setIfInBounds_toArray, List.set_cons_zero, List.set_cons_succ])
  refine SeqO.val1 (v := .agg (bdv x.fat).toArray) (by rfl) (by rfl) (fun u hS => run_load_part (by rfl) (by rfl) ((CE.out u hS).1.part 0 6) Try.underlying35 (by rfl) (by kernel_rfl)) ?_
  simp only [Act.put, List.setIfInBounds_toArray, List.set_cons_zero, List.set_cons_succ]
  iterate 1 (refine SeqO.val1 (v := ?_) (by rfl) (by rfl) (fun w1 hS => ?_) ?_; rotate_left; (· skip; go_simp; try with_reducible rfl); simp only [Act.put, List.setIfInBounds_toArray, List.set_cons_zero, List.set_cons_succ])
  refine SeqO.val1 (v := .agg (bdv y.fat).toArray) (by rfl) (by rfl) (fun u hS => run_load_part (by rfl) (by rfl) ((CE.out u hS).2.part 0 6) Try.underlying35 (by rfl) (by kernel_rfl)) ?_
  simp only [Act.put, List.setIfInBounds_toArray, List.set_cons_zero, List.set_cons_succ]
  refine SeqO.callv1 (v := .agg (bdv (join x.fat y.fat)).toArray) (by rfl) (by rfl) (by rfl) cfJ (by simp [Act.eval] <;> rfl) (fun u hR => ?_) ?_
  · refine (joinC x.fat y.fat u).mono ?_
    rintro e w' ⟨rfl, hS⟩
    exact ⟨rfl, fun h => h.trans (hS.mono h.size), fun h => ⟨h.1.step hS, h.2.1.trans (Mod.of_below hS), h.2.2.1.step hS, h.2.2.2.step hS⟩⟩
  simp only [Act.put, List.setIfInBounds_toArray, List.set_cons_zero, List.set_cons_succ]
  iterate 1 (refine SeqO.val1 (v := ?_) (by rfl) (by rfl) (fun w1 hS => ?_) ?_; rotate_left; (· skip; go_simp; try with_reducible rfl); simp only [Act.put, List.setIfInBounds_toArray, List.set_cons_zero, List.set_cons_succ])
  iterate 1 (refine SeqO.val1 (v := ?_) (by rfl) (by rfl) (fun w1 hS => ?_) ?_; rotate_left; (· (have c0 : w1.cell? ⟨g1, 16, none⟩ = some (.int .i64 x.h) := by (rw [(CE.out w1 hS).1.cell]; rfl)); go_simp; try with_reducible rfl); simp only [Act.put, List.setIfInBounds_toArray, List.set_cons_zero, List.set_cons_succ])
  iterate 1 (refine SeqO.val1 (v := ?_) (by rfl) (by rfl) (fun w1 hS => ?_) ?_; rotate_left; (· skip; go_simp; try with_reducible rfl); simp only [Act.put, List.setIfInBounds_toArray, List.set_cons_zero, List.set_cons_succ])
  iterate 1 (refine SeqO.val1 (v := ?_) (by rfl) (by rfl) (fun w1 hS => ?_) ?_; rotate_left; (· (have c0 : w1.cell? ⟨g2, 16, none⟩ = some (.int .i64 y.h) := by (rw [(CE.out w1 hS).2.cell]; rfl)); go_simp; try with_reducible rfl); simp only [Act.put, List.setIfInBounds_toArray, List.set_cons_zero, List.set_cons_succ])
  iterate 4 (refine SeqO.val1 (v := ?_) (by rfl) (by rfl) (fun w1 hS => ?_) ?_; rotate_left; (· skip; go_simp; try with_reducible rfl); simp only [Act.put, List.setIfInBounds_toArray, List.set_cons_zero, List.set_cons_succ])
  refine SeqO.one (v := undef) (by rfl) (by rfl) (fun u hR K hK => ?_) ?_
  · have tu := T9.step hR
    refine wp_store_mid 35 (.tmp 47) (.tmp 39) (by rfl) T.g (i * 17) (bdv (join x.fat y.fat)).toArray (by rfl) (by rfl) (TN.there tu hi) (by kernel_rfl) (by simp [bdv, Value.oneCell']) (hK _ ⟨TN.putFat tu hi _, Mod.cells _ _ _ (Mod.of_below hR), box_cells (by omega) _ _ _ (B1.step hR), box_cells (by omega) _ _ _ (B2.step hR)⟩)
  simp only [Act.put, List.setIfInBounds_toArray, List.set_cons_zero, List.set_cons_succ]
  refine SeqO.nil1 (by decide) fun w10 hR2 => ?_
  refine Ph.last ?_
  simp only [List.drop_succ_cons, List.drop_zero, List.take_succ_cons, List.take_zero, Nat.reduceSub, Nat.sub_zero]
  obtain ⟨h10, m10, _, _⟩ := hR2
  clear CE B1 B2
  have ev : IntKind.i64.wrap (1 + if x.h < y.h then y.h else x.h) = 1 + max x.h y.h := by rw [IntKind.wrap_i64]; split <;> omega
  rw [ev]
  clear v1 v2 ev
  iterate 2 (with_reducible refine wpL_val (v := ?_) ?_ ?_ ?_; rotate_left; (· kernel_rfl); (· go_simp; try with_reducible rfl); conv => arg 5; simp only [Act.put, List.setIfInBounds_toArray, List.set_cons_zero, List.set_cons_succ])
  refine wpL_nf (T := { T with m := st T.m i { T.m i with fat := join x.fat y.fat } }) (k := i) (j := 16) (x := .tmp 49) (y := .tmp 45) (n := 1 + max x.h y.h) (z := { T.m i with fat := join x.fat y.fat, h := 1 + max x.h y.h }) (by rfl) (by rfl) (by rfl) (by rfl) h10 hi (by decide) (by simp only [st_at]; rfl) ?_
  intro w11 h11 m11
  refine wpList_nil ?_
  have em : again T.m i = st T.m i { T.m i with fat := join x.fat y.fat, h := 1 + max x.h y.h } := by unfold again; rw [hl, hr, hx, hy]
  simp only [st_st] at h11
  rw [← em] at h11
  have mm := ((Mod.of_below (p := T.p) (g := T.g) (S9.mono (Nat.le_refl _))).trans (m10.trans m11))
  go_end0
  exact ⟨rfl, h11, mm⟩
end TrA
end Go.Proofs.Ytbcjnckejkjfeaa
