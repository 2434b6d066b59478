/- A bound set in a tree: the walk. Condition: the tree is there, and not too great. An entry of the document's tree turned in its place. No condition. -/
import Derived.Test.YtbcjnckejkjfeaaGreatQal
import Derived.Test.YtbcjnckejkjfeaaGreatQag
import Derived.Laws.IdiomCopy
namespace Go.Proofs.YtbcjnckejkjfeaaGreat
set_option linter.unusedVariables false
set_option linter.unusedSimpArgs false
open Go.RowKit Go.NP
namespace TSt
open TrP TrW TrC TrA TrF TrG TrX TrY TrK THg TCt QVl QVm TMp TrE TrI TAs TPu TDr
theorem cf34 (args : Array Value) (w1 : World) : (callFunc 34 args).run Tryz.prog w1 = .ok (.enter 34 args) w1 := enters Tryz.func34 (by kernel_rfl) (by kernel_rfl) args w1
theorem cf39 (args : Array Value) (w1 : World) : (callFunc 39 args).run Tryz.prog w1 = .ok (.enter 39 args) w1 := enters Tryz.func39 (by kernel_rfl) (by kernel_rfl) args w1
/-- What Set answers, and does. -/
def setE (L : List En) (n : Int) (x : Bd) : Int := if 1 ≤ n ∧ n ≤ 4096 then (if x.ok then (if isIn L n then 0 else 4) else 7) else 2
def fatOf (L : List En) (n : Int) : Bd := ((get L n).map (·.fat)).getD bzero
def setM (L : List En) (n : Int) (x : Bd) : Bool := decide (setE L n x = 0) && !holds (fatOf L n) x
def setL (mg : Int) (L : List En) (n : Int) (x : Bd) : List En := if setE L n x = 0 then upd L ⟨n, x, if holds (fatOf L n) x then fatOf L n else grow x mg⟩ else L
theorem setE_ask {L : List En} {n : Int} {x : Bd} (h : askS n x ≠ 0) : setE L n x = askS n x := by
  unfold setE askS errIf at *
  split
  · rename_i h1; rw [if_pos h1] at h
    split
    · rename_i h2; rw [if_pos h2] at h; exact absurd rfl h
    · rfl
  · rfl
/-- A node's bound is written. -/
theorem TN.putB {w : World} {T : Tn} (h : TN w T) {k : Nat} (hk : k < T.N) (b : Bd) : TN (w.setCells T.g (k * 17 + 6) (bdv b)) { T with m := st T.m k { T.m k with b := b } } := by
  have h1 := h.put (v := .int .i64 b.lo.x) (x := { T.m k with b := ⟨⟨b.lo.x, (T.m k).b.lo.y, (T.m k).b.lo.z⟩, (T.m k).b.hi⟩ }) hk (show 6 < 17 by omega) rfl
  have h2 := h1.put (v := .int .i64 b.lo.y) (x := { T.m k with b := ⟨⟨b.lo.x, b.lo.y, (T.m k).b.lo.z⟩, (T.m k).b.hi⟩ }) hk (show 7 < 17 by omega) (by simp only [st_at]; rfl)
  have h3 := h2.put (v := .int .i64 b.lo.z) (x := { T.m k with b := ⟨b.lo, (T.m k).b.hi⟩ }) hk (show 8 < 17 by omega) (by simp only [st_at]; rfl)
  have h4 := h3.put (v := .int .i64 b.hi.x) (x := { T.m k with b := ⟨b.lo, ⟨b.hi.x, (T.m k).b.hi.y, (T.m k).b.hi.z⟩⟩ }) hk (show 9 < 17 by omega) (by simp only [st_at]; rfl)
  have h5 := h4.put (v := .int .i64 b.hi.y) (x := { T.m k with b := ⟨b.lo, ⟨b.hi.x, b.hi.y, (T.m k).b.hi.z⟩⟩ }) hk (show 10 < 17 by omega) (by simp only [st_at]; rfl)
  have h6 := h5.put (v := .int .i64 b.hi.z) (x := { T.m k with b := b }) hk (show 11 < 17 by omega) (by simp only [st_at]; rfl)
  simp only [st_st] at h6
  exact h6
theorem thereP {w : World} {T : Tn} (h : TN w T) {k : Nat} (hk : k < T.N) (o n : Nat) (ho : o + n ≤ 17) : w.there T.g (k * 17 + o) n := fun j hj => by
  rw [Nat.add_assoc]
  exact TN.thereN h hk (o + j) (by omega)
theorem lv_sub : ∀ t : Tr, t.lv.Sublist t.all
  | .leaf i => List.Sublist.refl _
  | .node i l r => List.Sublist.cons i (List.Sublist.append (lv_sub l) (lv_sub r))
theorem Shape.lvnd {m : M} {t : Int} {al lv : List Int} (h : Shape m t al lv) (hn : al.Nodup) : lv.Nodup := by
  rcases h with ⟨_, _, rfl⟩ | ⟨s, h1, h2, h3, h4, h5, h6⟩
  · exact List.nodup_nil
  · exact h6.nodup_iff.1 ((lv_sub s).nodup (h5.nodup_iff.2 hn))
/-- The entries behind a Set. -/
theorem upd_of {p K b c a : Nat} {mg n : Int} {x g : Bd} {L : List En} {T : Tn} {F al lv lv' : List Int} {pl : Int → Option Int} {w : World} {m' : M} (h : TI0 w p mg L K T F al lv b c pl) (hp : ((a : Int) :: lv').Perm lv) (hn : (T.m a).n = n) (hi : isIn L n = true) (hm : ∀ i ∈ lv', ent m' i = ent T.m i) (ha : ent m' a = ⟨n, x, g⟩) :
    (((a : Int) :: lv').map (ent m')).Perm (upd L ⟨n, x, g⟩) := by
  rw [List.map_cons, ha, List.map_congr_left hm]
  exact (List.Perm.cons _ (less_perm h hp hn hi)).trans (upd_perm h.rise hi).symm
theorem upd_mem {L : List En} {e x : En} (hr : Rise L) (hi : isIn L e.n = true) (h : x ∈ upd L e) : x = e ∨ x ∈ L := by
  rcases List.mem_cons.1 ((upd_perm hr hi).mem_iff.1 h) with q | q
  · exact .inl q
  · exact .inr ((del_sub L e.n).subset q)
set_option maxRecDepth 100000 in
set_option maxHeartbeats 4000000 in
theorem setErr {p : Nat} {n : Int} {x : Bd} (w : World) (hm : w.cell? ⟨p, 0, none⟩ = some (.bool true)) (hp : p < w.heap.size) (he : askS n x ≠ 0) : RetB Tryz.prog 17 #[.pointer (some ⟨p, 0, none⟩), .int .i64 n, .agg #[.int .i64 x.lo.x, .int .i64 x.lo.y, .int .i64 x.lo.z, .int .i64 x.hi.x, .int .i64 x.hi.y, .int .i64 x.hi.z]] w (.tuple #[.bool false, .int .i64 (askS n x)]) := by
  have hb : Below w.heap.size w (w.alloc (.cells #[.int .i64 x.lo.x, .int .i64 x.lo.y, .int .i64 x.lo.z, .int .i64 x.hi.x, .int .i64 x.hi.y, .int .i64 x.hi.z] 38)) := (Below.refl _ _).alloc (Nat.le_refl _) _
  have hm2 : (w.alloc (.cells #[.int .i64 x.lo.x, .int .i64 x.lo.y, .int .i64 x.lo.z, .int .i64 x.hi.x, .int .i64 x.hi.y, .int .i64 x.hi.z] 38)).cell? ⟨p, 0, none⟩ = some (.bool true) := by rw [(bcell hb).1 p 0 hp]; exact hm
  have hp2 : p < (w.alloc (.cells #[.int .i64 x.lo.x, .int .i64 x.lo.y, .int .i64 x.lo.z, .int .i64 x.hi.x, .int .i64 x.hi.y, .int .i64 x.hi.z] 38)).heap.size := by have := hb.size; omega
  have AS := Lib.hid (askedC (n := n) (x := x) _ hm2 hp2)
  obtain ⟨e, hee⟩ : ∃ e, askS n x = e := ⟨_, rfl⟩
  rw [hee] at he
  rw [hee] at AS ⊢
  have t1 : (e != 0) = true := by simpa using he
  unfold RetB
  go_enter Tryz.func17, Tryz.ntmps17
  go_wp2_with fail
  refine AS.out.mono ?_
  rintro e1 w1 ⟨rfl, hS⟩
  go_wp2_with fail
  exact bodyPost_ret (v := .tuple #[.bool false, .int .i64 e]) (by simp [results, Tryz.results17, go_sem, *]) rfl ⟨rfl, hb.trans (hS.mono hb.size)⟩
set_option maxRecDepth 100000 in
set_option maxHeartbeats 4000000 in
theorem setNo {p b c : Nat} {n : Int} {x : Bd} {pl : Int → Option Int} (w : World) (hm : w.cell? ⟨p, 0, none⟩ = some (.bool true)) (hp : p < w.heap.size) (h5 : w.cell? ⟨p, 5, none⟩ = some (.map (some b))) (hv : VM w b (im pl) c) (he : askS n x = 0) (hn : pl n = none) : RetB Tryz.prog 17 #[.pointer (some ⟨p, 0, none⟩), .int .i64 n, .agg #[.int .i64 x.lo.x, .int .i64 x.lo.y, .int .i64 x.lo.z, .int .i64 x.hi.x, .int .i64 x.hi.y, .int .i64 x.hi.z]] w (.tuple #[.bool false, .int .i64 4]) := by
  have hb : Below w.heap.size w (w.alloc (.cells #[.int .i64 x.lo.x, .int .i64 x.lo.y, .int .i64 x.lo.z, .int .i64 x.hi.x, .int .i64 x.hi.y, .int .i64 x.hi.z] 38)) := (Below.refl _ _).alloc (Nat.le_refl _) _
  have hm2 : (w.alloc (.cells #[.int .i64 x.lo.x, .int .i64 x.lo.y, .int .i64 x.lo.z, .int .i64 x.hi.x, .int .i64 x.hi.y, .int .i64 x.hi.z] 38)).cell? ⟨p, 0, none⟩ = some (.bool true) := by rw [(bcell hb).1 p 0 hp]; exact hm
  have hp2 : p < (w.alloc (.cells #[.int .i64 x.lo.x, .int .i64 x.lo.y, .int .i64 x.lo.z, .int .i64 x.hi.x, .int .i64 x.hi.y, .int .i64 x.hi.z] 38)).heap.size := by have := hb.size; omega
  have AS := Lib.hid (askedC (n := n) (x := x) _ hm2 hp2)
  rw [he] at AS
  have wf := wf_rng (askS_zero he).1
  unfold RetB
  go_enter Tryz.func17, Tryz.ntmps17
  go_wp2_with fail
  refine AS.out.mono ?_
  rintro e1 w1 ⟨rfl, hS⟩
  have hW := hb.trans (hS.mono hb.size)
  have c5 : w1.cell? ⟨p, 5, none⟩ = some (.map (some b)) := by rw [(bcell hW).1 p 5 hp]; exact h5
  have hv1 := hv.step hW
  have l1 := hv1.look_ok wf Tryz.underlying57 (zI w1)
  rw [im_some, im_no hn, hn] at l1
  simp only [Option.isSome_none] at l1
  have HW := Lib.hid hW
  clear hm h5 hv hS hb hm2 hp2 hW hv1
  have hp1 : p < w1.heap.size := by have := HW.out.size; omega
  go_wp2_with fail
  exact bodyPost_ret (v := .tuple #[.bool false, .int .i64 4]) (by simp [results, Tryz.results17, go_sem, *]) rfl ⟨rfl, HW.out⟩
set_option maxRecDepth 100000 in
set_option maxHeartbeats 8000000 in
theorem setIn {K b c : Nat} {n : Int} {x : Bd} {L : List En} {T : Tn} {F al lv : List Int} {pl : Int → Option Int} (w : World) (h : TI0 w T.p T.mg L K T F al lv b c pl) (hK : K < 80000) (he : askS n x = 0) (hn : isIn L n = true) :
    Calls Tryz.prog 17 #[.pointer (some ⟨T.p, 0, none⟩), .int .i64 n, .agg #[.int .i64 x.lo.x, .int .i64 x.lo.y, .int .i64 x.lo.z, .int .i64 x.hi.x, .int .i64 x.hi.y, .int .i64 x.hi.z]] w fun e w' => e = .returned (.tuple #[.bool (!holds (fatOf L n) x), .int .i64 0]) ∧ ∃ S', TI w' T.p T.mg (upd L ⟨n, x, if holds (fatOf L n) x then fatOf L n else grow x T.mg⟩) S' (K + 4) ∧ Aft2 w w' (own T b) S' := by
  have hp := h.lt
  have hb : Below w.heap.size w (w.alloc (.cells #[.int .i64 x.lo.x, .int .i64 x.lo.y, .int .i64 x.lo.z, .int .i64 x.hi.x, .int .i64 x.hi.y, .int .i64 x.hi.z] 38)) := (Below.refl _ _).alloc (Nat.le_refl _) _
  have h1 := h.step hb
  have hm2 : (w.alloc (.cells #[.int .i64 x.lo.x, .int .i64 x.lo.y, .int .i64 x.lo.z, .int .i64 x.hi.x, .int .i64 x.hi.y, .int .i64 x.hi.z] 38)).cell? ⟨T.p, 0, none⟩ = some (.bool true) := TO.madec h1.ts.tx.to
  have hp2 := h1.lt
  have AS := Lib.hid (askedC (n := n) (x := x) _ hm2 hp2)
  rw [he] at AS
  have nr := askS_zero he
  have wf := wf_rng nr.1
  obtain ⟨a, hpa, hal, han, haN, hget⟩ := h.look_in hn
  obtain ⟨f, hf⟩ : ∃ f, fatOf L n = f := ⟨_, rfl⟩
  have hff : (T.m a).fat = f := by rw [← hf]; unfold fatOf; rw [hget]; rfl
  have hbx : Box (w.alloc (.cells #[.int .i64 x.lo.x, .int .i64 x.lo.y, .int .i64 x.lo.z, .int .i64 x.hi.x, .int .i64 x.hi.y, .int .i64 x.hi.z] 38)) w.heap.size [.int .i64 x.lo.x, .int .i64 x.lo.y, .int .i64 x.lo.z, .int .i64 x.hi.x, .int .i64 x.hi.y, .int .i64 x.hi.z] 38 := Box.new rfl
  have H0 := Lib.hid h
  rw [hf]
  clear h
  go_enter Tryz.func17, Tryz.ntmps17
  go_wp2_with fail
  refine AS.out.mono ?_
  rintro e1 w1 ⟨rfl, hS⟩
  have hW := hb.trans (hS.mono hb.size)
  obtain ⟨gx, hgx⟩ : ∃ g, w.heap.size = g := ⟨_, rfl⟩
  have hx1 := hbx.step hS
  have h2 := h1.step hS
  rw [hgx] at hx1
  rw [hgx]
  have hT2 : TN w1 T := by
    rcases h2.ts.tx.to with ⟨q, _⟩ | q
    · omega
    · exact q
  have c5 : w1.cell? ⟨T.p, 5, none⟩ = some (.map (some b)) := by have := TO.mpc h2.ts.tx.to; rw [h2.ts.tx.mp] at this; exact this
  have c2 := hT2.nodes
  have l1 := h2.ts.tx.vm.look_ok wf Tryz.underlying57 (zI w1)
  rw [im_some, im_at hpa, hpa] at l1
  simp only [Option.isSome_some] at l1
  have HW := Lib.hid hW; have H2 := Lib.hid h2; have HX := Lib.hid hx1; have HT := Lib.hid hT2
  have hp1 := h2.lt
  have lx := hx1.lt
  have a0 : 0 ≤ (a : Int) ∧ (a : Int) < T.N := by omega
  clear hm2 hb hp2 hW h1 h2 hbx hx1 hS AS hT2
  go_wp2_with fail
  refine wp_region_ph [(8, .free [])] (by kernel_rfl) (by kernel_rfl) ?_
  refine Ph.belowd ?_
  simp only [List.drop_succ_cons, List.drop_zero, List.take_succ_cons, List.take_zero, Nat.reduceSub, Nat.sub_zero]
  iterate 5 (refine SeqO.val (v := ?_) (by rfl) (by rfl) (fun w1 hS => ?_) ?_; rotate_left; (· obtain ⟨hc, hcf⟩ := bcell hS; go_simp; try with_reducible rfl); simp only [Act.put, List.setIfInBounds_toArray, List.set_cons_zero, List.set_cons_succ])
  refine SeqO.row (l := [.int .i64 x.lo.x, .int .i64 x.lo.y, .int .i64 x.lo.z, .int .i64 x.hi.x, .int .i64 x.hi.y, .int .i64 x.hi.z]) (by rfl) (by rfl) HX.out Tryz.underlying38 (by rfl) (by kernel_rfl) (by rfl) (by rfl) ?_
  simp only [Act.put, List.setIfInBounds_toArray, List.set_cons_zero, List.set_cons_succ]
  iterate 2 (refine SeqO.val (v := ?_) (by rfl) (by rfl) (fun w1 hS => ?_) ?_; rotate_left; (· obtain ⟨hc, hcf⟩ := bcell hS; go_simp; try with_reducible rfl); simp only [Act.put, List.setIfInBounds_toArray, List.set_cons_zero, List.set_cons_succ])
  refine SeqO.nil0 fun w2 hS2 => ?_
  refine Ph.last ?_
  simp only [List.drop_succ_cons, List.drop_zero, List.take_succ_cons, List.take_zero, Nat.reduceSub, Nat.sub_zero]
  have h3 := HT.out.step hS2
  have HX2 := HX.out.step hS2
  have f2 : Fr w w2 (own T b) := Fr.of_below (S := own T b) (HW.out.trans (hS2.mono HW.out.size))
  have X2 := H2.out.ts.tx.step hS2
  refine wpList_store_mid (by rfl) 38 (.tmp 36) (.tmp 34) (by rfl) T.g (a * 17 + 6) (bdv x).toArray (by rfl) (by rfl) (thereP h3 haN 6 6 (by omega)) (by kernel_rfl) (by simp [bdv, Value.oneCell']) ?_
  have hgx2 : gx ≠ T.g := by have := H0.out.ts.tx.lt _ (.inr (.inl rfl)); omega
  have M3 := Mod.cells (p := T.p) (g := T.g) (bdv x) (a * 17 + 6) w2 (Mod.refl _ _ _)
  have h4 := TN.putB h3 haN x
  have HX3 := box_cells (fun e => hgx2 e.symm) (bdv x) (a * 17 + 6) _ HX2
  have X3 := X2.moved (m := st T.m a { T.m a with b := x }) (t := T.top) h4 M3
  have f3 := f2.trans (Fr.of_mod (S := own T b) M3 (.inl rfl) (.inr (.inl rfl))) fun j hj => .inl hj
  revert h4 HX3 X3 f3
  show TN (w2.setCells T.g (a * 17 + 6) (bdv x).toArray.toList) _ → _
  generalize w2.setCells T.g (a * 17 + 6) (bdv x).toArray.toList = w3
  intro h4 HX3 X3 f3
  clear HT H2 HX HW hS2 h3 HX2 f2 X2 M3 c5 c2 l1 hp1 lx
  have H4 := Lib.hid h4; have HX := Lib.hid HX3; have HX4 := Lib.hid X3; have HF3 := Lib.hid f3
  refine wpList_nil ?_
  have c2 : w3.cell? ⟨T.p, 2, none⟩ = some (.slice (some ⟨T.g, 0, none⟩) T.N T.cap) := h4.nodes
  obtain ⟨lp, lg⟩ := TN.lt h4
  have lp : T.p < w3.heap.size := lp
  have HLG := Lib.hid (show T.g < w3.heap.size from lg)
  have lx := HX3.lt
  have fA : At' w3 T.g (a * 17) [.int .i64 f.lo.x, .int .i64 f.lo.y, .int .i64 f.lo.z, .int .i64 f.hi.x, .int .i64 f.hi.y, .int .i64 f.hi.z] := by
    have := TrK.fatAt h4 haN
    simp only [st_at] at this
    rw [hff] at this
    exact this
  have HFA := Lib.hid fA
  clear h4 HX3 X3 f3 fA lg
  go_wp2_with fail
  refine wp_region_ph [(10, .free [])] (by kernel_rfl) (by kernel_rfl) ?_
  refine Ph.belowd ?_
  simp only [List.drop_succ_cons, List.drop_zero, List.take_succ_cons, List.take_zero, Nat.reduceSub, Nat.sub_zero]
  iterate 7 (refine SeqO.val (v := ?_) (by rfl) (by rfl) (fun w1 hS => ?_) ?_; rotate_left; (· obtain ⟨hc, hcf⟩ := bcell hS; go_simp; try with_reducible rfl); simp only [Act.put, List.setIfInBounds_toArray, List.set_cons_zero, List.set_cons_succ])
  refine SeqO.at (l := [.int .i64 f.lo.x, .int .i64 f.lo.y, .int .i64 f.lo.z, .int .i64 f.hi.x, .int .i64 f.hi.y, .int .i64 f.hi.z]) (by rfl) (by rfl) HLG.out HFA.out Tryz.underlying38 (by rfl) (by kernel_rfl) (by rfl) (by rfl) ?_
  simp only [Act.put, List.setIfInBounds_toArray, List.set_cons_zero, List.set_cons_succ]
  refine SeqO.row (l := [.int .i64 x.lo.x, .int .i64 x.lo.y, .int .i64 x.lo.z, .int .i64 x.hi.x, .int .i64 x.hi.y, .int .i64 x.hi.z]) (by rfl) (by rfl) HX.out Tryz.underlying38 (by rfl) (by kernel_rfl) (by rfl) (by rfl) ?_
  simp only [Act.put, List.setIfInBounds_toArray, List.set_cons_zero, List.set_cons_succ]
  refine SeqO.callv (by rfl) (by rfl) (by rfl) cf39 (by simp [Act.eval]) (fun w1 hS => holdsC f x w1) ?_
  simp only [Act.put, List.setIfInBounds_toArray, List.set_cons_zero, List.set_cons_succ]
  refine SeqO.nil0 fun w4 hS4 => ?_
  refine Ph.last ?_
  simp only [List.drop_succ_cons, List.drop_zero, List.take_succ_cons, List.take_zero, Nat.reduceSub, Nat.sub_zero]
  refine wpList_nil ?_
  have H5 := Lib.hid (H4.out.step hS4)
  have HX5 := Lib.hid (HX.out.step hS4)
  have X5 := Lib.hid (HX4.out.step hS4)
  have HF5 := Lib.hid (HF3.out.trans (Fr.of_below (S := own T b) hS4) fun j hj => .inl hj)
  clear c2 lp lx HLG HFA H4 HX HX4 HF3 hS4
  cases hh : holds f x with
  | true =>
    go_wp2_with fail
    refine bodyPost_ret (v := .tuple #[.bool false, .int .i64 0]) (by simp [results, Tryz.results17, go_sem, *]) rfl ⟨rfl, ?_⟩
    have h0 := H0.out
    have nd := Shape.lvnd h0.ts.sh (List.nodup_append.1 h0.ts.nd).1
    have hpe : ((a : Int) :: lv.erase a).Perm lv := (List.perm_cons_erase hal).symm
    have hout : (a : Int) ∉ lv.erase a := fun hm => absurd rfl (List.Nodup.mem_erase_iff nd |>.1 hm).1
    have hme : ∀ i ∈ lv.erase a, ent (st T.m a { T.m a with b := x }) i = ent T.m i := fun i hi => by unfold ent; rw [st_ne fun e => hout (by have q := hi; rw [e] at q; exact q)]
    have hna : ∀ i, (st T.m a { T.m a with b := x } i).n = (T.m i).n := fun i => by
      by_cases e : i = a
      · subst e; rw [st_at]
      · rw [st_ne e]
    refine ⟨own T b, ⟨{ T with m := st T.m a { T.m a with b := x } }, F, al, lv, b, c, pl, ⟨⟨X5.out, Shape.setB h0.ts.sh (by rw [hff]; exact hh), h0.ts.nd, h0.ts.rng, ?_, ?_, ?_⟩, rfl, rfl, h0.mg0, ?_, upd_rise h0.rise hn, fun k i => ?_, fun e he => ?_, ?_⟩, rfl⟩, ⟨HF5.out, fun k hk => .inl hk⟩⟩
    · have := h0.ts.n1; show T.N ≤ K + 4; omega
    · have := h0.ts.n2; omega
    · have := h0.ts.n3; omega
    · exact ((hpe.map _).symm).trans (upd_of h0 hpe han hn hme (by show ent (st T.m a { T.m a with b := x }) a = _; unfold ent; rw [st_at]; simp only [hff, han]))
    · rw [h0.pls k i]
      show _ ↔ i ∈ lv ∧ (st T.m a { T.m a with b := x } i).n = k
      rw [hna]
    · rcases upd_mem h0.rise hn he with q | q
      · rw [q]; exact nr.1
      · exact h0.rng e q
    · have := h0.cK; omega
  | false =>
    have hm0 : ∀ k, k ≠ (a : Int) → (st T.m a { T.m a with b := x }) k = T.m k := fun k hk => st_ne hk
    have hma : (st T.m a { T.m a with b := x } a).u = (T.m a).u ∧ (st T.m a { T.m a with b := x } a).n = (T.m a).n := by rw [st_at]; exact ⟨rfl, rfl⟩
    have h0 := H0.out
    have hTS : TSm w4 { T with m := st T.m a { T.m a with b := x } } T.m F al lv b c pl K := ⟨X5.out, h0.ts.sh, h0.ts.nd, h0.ts.rng, h0.ts.n1, h0.ts.n2, h0.ts.n3⟩
    have HB := Lib.hid (fun (u : World) (hf : Fr w4 u (own T b)) => (show Box u gx [.int .i64 x.lo.x, .int .i64 x.lo.y, .int .i64 x.lo.z, .int .i64 x.hi.x, .int .i64 x.hi.y, .int .i64 x.hi.z] 38 from Box.block HX5.out (hf.block gx HX5.out.lt fun q => by have := H0.out.ts.tx.lt _ q; omega)))
    go_wp2_with fail
    refine (cutM (T := { T with m := st T.m a { T.m a with b := x } }) (a := a) w4 hTS (by omega) hal hm0 hma).mono ?_
    rintro e w5 ⟨rfl, T2, F2, al2, lv2, hC⟩
    have hpT : T2.p = T.p := hC.af.p
    have hN2 : TN w5 T2 := by
      rcases hC.ts.tx.to with ⟨q, _⟩ | q
      · have := hC.lt; omega
      · exact q
    have hfC : Fr w4 w5 (own T b) := hC.af.fr
    have c2 : w5.cell? ⟨T.p, 2, none⟩ = some (.slice (some ⟨T2.g, 0, none⟩) T2.N T2.cap) := by have := hN2.nodes; rw [hpT] at this; exact this
    have c1 : w5.cell? ⟨T.p, 1, none⟩ = some (.int .i64 T.mg) := by
      have := TO.mgc hC.ts.tx.to
      rw [hpT] at this
      rw [this]; exact congrArg (fun z => some (Value.int .i64 z)) hC.af.mg
    have B5 := HB.out w5 hfC
    obtain ⟨g, hg⟩ : ∃ g, grow x T.mg = g := ⟨_, rfl⟩
    obtain ⟨hq1, hq2⟩ := TN.lt hN2
    have lp : T.p < w5.heap.size := by rw [← hpT]; exact hq1
    have a0 : 0 ≤ (a : Int) ∧ (a : Int) < T2.N := by have := hC.lt; omega
    have gx2 : T2.g ≠ gx := fun e => by
      rcases hC.af.ow T2.g (.inr (.inl rfl)) with q | q
      · have := H0.out.ts.tx.lt _ q; omega
      · have := HX5.out.lt; omega
    have HC := Lib.hid hC; have HN := Lib.hid hN2; have HB5 := Lib.hid B5; have HFC := Lib.hid hfC
    have CE := Lib.hid (fun (u : World) (hS : Below w5.heap.size w5 u ∨ (TN u { T2 with m := st T2.m a { T2.m a with fat := g } } ∧ Mod w5 u T2.p T2.g ∧ Box u gx [.int .i64 x.lo.x, .int .i64 x.lo.y, .int .i64 x.lo.z, .int .i64 x.hi.x, .int .i64 x.hi.y, .int .i64 x.hi.z] 38)) => (show u.cell? ⟨T.p, 2, none⟩ = some (.slice (some ⟨T2.g, 0, none⟩) T2.N T2.cap) ∧ u.cell? ⟨T.p, 1, none⟩ = some (.int .i64 T.mg) ∧ Box u gx [.int .i64 x.lo.x, .int .i64 x.lo.y, .int .i64 x.lo.z, .int .i64 x.hi.x, .int .i64 x.hi.y, .int .i64 x.hi.z] 38 from by
      rcases hS with q | ⟨q1, q2, q3⟩
      · rw [(bcell q).1 T.p 2 lp, (bcell q).1 T.p 1 lp]
        exact ⟨c2, c1, HB5.out.step q⟩
      · have r2 := q1.nodes
        have r1 := TO.mgc (.inr q1)
        simp only at r1
        have r2' : u.cell? ⟨T2.p, 2, none⟩ = some (.slice (some ⟨T2.g, 0, none⟩) T2.N T2.cap) := r2
        have r1' : u.cell? ⟨T2.p, 1, none⟩ = some (.int .i64 T2.mg) := r1
        rw [hpT] at r1' r2'
        have em : T2.mg = T.mg := HC.out.af.mg
        rw [em] at r1'
        exact ⟨r2', r1', q3⟩))
    clear hC hN2 hfC c2 c1 B5 hTS hm0 hma h0 hq1 hq2
    have lpk := lp
    go_wp2_with fail
    refine wp_region_ph [(19, .free [])] (by kernel_rfl) (by kernel_rfl) ?_
    refine Ph.one 18 (fun u => Below w5.heap.size w5 u) (fun u => TN u { T2 with m := st T2.m a { T2.m a with fat := g } } ∧ Mod w5 u T2.p T2.g ∧ Box u gx [.int .i64 x.lo.x, .int .i64 x.lo.y, .int .i64 x.lo.z, .int .i64 x.hi.x, .int .i64 x.hi.y, .int .i64 x.hi.z] 38) (by rfl) (Below.refl _ _).drew ?_
    simp only [List.drop_succ_cons, List.drop_zero, List.take_succ_cons, List.take_zero, Nat.reduceSub, Nat.sub_zero]
    iterate 10 (refine SeqO.val1 (v := ?_) (by rfl) (by rfl) (fun w1 hS => ?_) ?_; rotate_left; (· obtain ⟨c2, c1, cb⟩ := CE.out w1 hS; go_simp; try with_reducible rfl); simp only [Act.put, List.setIfInBounds_toArray, List.set_cons_zero, List.set_cons_succ])
    refine SeqO.val1 (v := .agg [.int .i64 x.lo.x, .int .i64 x.lo.y, .int .i64 x.lo.z, .int .i64 x.hi.x, .int .i64 x.hi.y, .int .i64 x.hi.z].toArray) (by rfl) (by rfl) (fun u hS => run_load_row (by rfl) (by rfl) (CE.out u hS).2.2 Tryz.underlying38 (by rfl) (by kernel_rfl)) ?_
    simp only [Act.put, List.setIfInBounds_toArray, List.set_cons_zero, List.set_cons_succ]
    iterate 4 (refine SeqO.val1 (v := ?_) (by rfl) (by rfl) (fun w1 hS => ?_) ?_; rotate_left; (· obtain ⟨c2, c1, cb⟩ := CE.out w1 hS; go_simp; try with_reducible rfl); simp only [Act.put, List.setIfInBounds_toArray, List.set_cons_zero, List.set_cons_succ])
    refine SeqO.callv1 (v := .agg (bdv g).toArray) (by rfl) (by rfl) (by rfl) cf34 (by simp [Act.eval] <;> rfl) (fun u hR => ?_) ?_
    · refine (growC x T.mg u).mono ?_
      rintro e w' ⟨rfl, hS⟩
      rw [hg]
      exact ⟨rfl, fun h => h.trans (hS.mono h.size), fun h => ⟨h.1.step hS, h.2.1.trans (Mod.of_below hS), h.2.2.step hS⟩⟩
    simp only [Act.put, List.setIfInBounds_toArray, List.set_cons_zero, List.set_cons_succ]
    iterate 2 (refine SeqO.val1 (v := ?_) (by rfl) (by rfl) (fun w1 hS => ?_) ?_; rotate_left; (· obtain ⟨c2, c1, cb⟩ := CE.out w1 hS; go_simp; try with_reducible rfl); simp only [Act.put, List.setIfInBounds_toArray, List.set_cons_zero, List.set_cons_succ])
    refine SeqO.one (v := undef) (by rfl) (by rfl) (fun u hR K hK => ?_) ?_
    · have tu := HN.out.step hR
      refine wp_store_mid 38 (.tmp 67) (.tmp 65) (by rfl) T2.g (a * 17) (bdv g).toArray (by rfl) (by rfl) (TN.there tu HC.out.lt) (by kernel_rfl) (by simp [bdv, Value.oneCell']) (hK _ ⟨TN.putFat tu HC.out.lt _, Mod.cells _ _ _ (Mod.of_below hR), box_cells gx2 (bdv g) (a * 17) _ (HB5.out.step hR)⟩)
    simp only [Act.put, List.setIfInBounds_toArray, List.set_cons_zero, List.set_cons_succ]
    refine SeqO.nil1 (by decide) fun w6 hR2 => ?_
    refine Ph.last ?_
    simp only [List.drop_succ_cons, List.drop_zero, List.take_succ_cons, List.take_zero, Nat.reduceSub, Nat.sub_zero]
    obtain ⟨h6, m6, b6⟩ := hR2
    iterate 2 (with_reducible refine wpL_val (v := ?_) ?_ ?_ ?_; rotate_left; (· kernel_rfl); (· go_simp; try with_reducible rfl); conv => arg 5; simp only [Act.put, List.setIfInBounds_toArray, List.set_cons_zero, List.set_cons_succ])
    refine wpL_nf (T := { T2 with m := st T2.m a { T2.m a with fat := g } }) (k := a) (j := 13) (x := .tmp 69) (y := .const (.int .i64 (-1))) (n := -1) (z := { T2.m a with fat := g, u := -1 }) (by rfl) (by rfl) (by rfl) (by rfl) h6 HC.out.lt (by decide) (by simp only [st_at]; rfl) ?_
    intro w7 h7 m7
    refine wpList_nil ?_
    simp only [st_st] at h7
    have M7 := m6.trans m7
    have HX7 := HC.out.ts.tx.moved (m := st T2.m a { T2.m a with fat := g, u := -1 }) (t := T2.top) h7 M7
    have hC := HC.out
    have h0 := H0.out
    have ha2 : (a : Int) ∉ al2 := fun hm => hC.out (List.mem_append_left _ hm)
    have haF : (a : Int) ∉ F2 := fun hm => hC.out (List.mem_append_right _ hm)
    have hl2 : ∀ i ∈ lv2, i ≠ (a : Int) := fun i hi e => ha2 (by rw [← e]; exact lv_al hC.ts.sh i hi)
    have hat1 : T2.m a = { T.m a with b := x } := by rw [hC.at_]; exact st_at _ _ _
    have hleaf := (Shape.leafs h0.ts.sh _ hal).2
    have hTS7 : TS w7 { T2 with m := st T2.m a { T2.m a with fat := g, u := -1 } } F2 al2 lv2 b c pl (K + 2) :=
      ⟨HX7, Shape.frame hC.ts.sh fun i hi => st_ne fun e => ha2 (by rw [← e]; exact hi), hC.ts.nd, hC.ts.rng, hC.ts.n1, hC.ts.n2, hC.ts.n3⟩
    have hHG := hangC (T := { T2 with m := st T2.m a { T2.m a with fat := g, u := -1 } }) (a := a) w7 hTS7 (by omega) hC.lt haF ha2 (by
      simp only [st_at, hat1]
      exact ⟨trivial, hleaf.1, hleaf.2.1, by rw [← hg]; exact holds_grow nr.2 _⟩)
    have hHG2 : Calls Tryz.prog 35 #[.pointer (some ⟨T.p, 0, none⟩), .int .i64 (a : Int)] w7 fun e w' => e = .returned (.tuple #[]) ∧ ∃ T' F' al', TS w' T' F' al' ((a : Int) :: lv2) b c pl (K + 2 + 2) ∧ Aft w7 w' { T2 with m := st T2.m a { T2.m a with fat := g, u := -1 } } T' b ((a : Int) :: lv2) := by rw [← hpT]; exact hHG
    clear h6 m6 b6 m7 HB5 HB CE
    go_wp2_with fail
    refine hHG2.mono ?_
    clear hHG hHG2
    rintro e w8 ⟨rfl, T8, F8, al8, hT8, hA8⟩
    have FIN := Lib.hid (show ∃ S', TI w8 T.p T.mg (upd L ⟨n, x, g⟩) S' (K + 4) ∧ Aft2 w w8 (own T b) S' from by
      have e8 : ∀ i ∈ lv2, ent T8.m i = ent T.m i := fun i hi => by
        obtain ⟨q1, q2, q3⟩ := hA8.ent i (List.mem_cons_of_mem _ hi)
        obtain ⟨r1, r2, r3⟩ := hC.af.ent i (hC.lv.mem_iff.1 (List.mem_cons_of_mem _ hi))
        simp only [st_ne (hl2 i hi)] at q1 q2 q3 r1 r2 r3
        unfold ent; rw [q1, q2, q3, r1, r2, r3]
      have e8a : ent T8.m a = ⟨n, x, g⟩ := by
        obtain ⟨q1, q2, q3⟩ := hA8.ent a (List.mem_cons_self ..)
        simp only [st_at, hat1] at q1 q2 q3
        unfold ent; rw [q1, q2, q3, han]
      refine ⟨own T8 b, ⟨T8, F8, al8, (a : Int) :: lv2, b, c, pl, ⟨hT8, hA8.p.trans hC.af.p, hA8.mg.trans hC.af.mg, h0.mg0, upd_of h0 hC.lv han hn e8 e8a, upd_rise h0.rise hn, fun k i => ?_, fun e he => ?_, ?_⟩, rfl⟩, ?_⟩
      · rw [h0.pls k i, ← hC.lv.mem_iff]
        have q : ∀ i ∈ (a : Int) :: lv2, (T8.m i).n = (T.m i).n := fun i hi => by
          rcases List.mem_cons.1 hi with r | hi
          · have := congrArg En.n e8a
            rw [r]; exact this.trans han.symm
          · exact congrArg En.n (e8 i hi)
        constructor
        · rintro ⟨h1, h2⟩; exact ⟨h1, by rw [q i h1]; exact h2⟩
        · rintro ⟨h1, h2⟩; exact ⟨h1, by rw [← q i h1]; exact h2⟩
      · rcases upd_mem h0.rise hn he with q | q
        · rw [q]; exact nr.1
        · exact h0.rng e q
      · have := h0.cK; omega
      · have o2 : ∀ k, own T2 b k → own T b k ∨ w.heap.size ≤ k := fun k hk => (hC.af.ow k hk).imp id fun q => by have := HF5.out.size; omega
        have g5 := HF5.out.trans HFC.out fun j hj => .inl hj
        have g7 := g5.trans (Fr.of_mod (S := own T2 b) M7 (.inl rfl) (.inr (.inl rfl))) o2
        have g8 := g7.trans hA8.fr o2
        refine ⟨g8, fun k hk => ?_⟩
        rcases hA8.ow k hk with q | q
        · exact o2 k q
        · right; have := g7.size; omega)
    clear hT8 hA8 hTS7 HX7 h7 M7 HN HC HFC
    go_wp2_with fail
    all_goals exact bodyPost_ret (v := .tuple #[.bool true, .int .i64 0]) (by simp [results, Tryz.results17, go_sem, *]) rfl ⟨rfl, FIN.out⟩
/-- A bound set. -/
theorem setC {p K : Nat} {mg n : Int} {x : Bd} {L : List En} {S : Nat → Prop} (w : World) (h : TI w p mg L S K) (hK : K < 80000) :
    Calls Tryz.prog 17 #[.pointer (some ⟨p, 0, none⟩), .int .i64 n, .agg #[.int .i64 x.lo.x, .int .i64 x.lo.y, .int .i64 x.lo.z, .int .i64 x.hi.x, .int .i64 x.hi.y, .int .i64 x.hi.z]] w fun e w' => e = .returned (.tuple #[.bool (setM L n x), .int .i64 (setE L n x)]) ∧ ∃ S', TI w' p mg (setL mg L n x) S' (K + 4) ∧ Aft2 w w' S S' := by
  obtain ⟨T, F, al, lv, b, c, pl, h, rfl⟩ := h
  have hm : w.cell? ⟨p, 0, none⟩ = some (.bool true) := by have := TO.madec h.ts.tx.to; rw [h.p_] at this; exact this
  by_cases he : askS n x = 0
  · have nr := askS_zero he
    cases hn : isIn L n with
    | true =>
      have e5 : setE L n x = 0 := by unfold setE; rw [if_pos nr.1, if_pos nr.2, if_pos hn]
      have e6 : setL mg L n x = upd L ⟨n, x, if holds (fatOf L n) x then fatOf L n else grow x mg⟩ := by unfold setL; rw [if_pos e5]
      have e7 : setM L n x = !holds (fatOf L n) x := by unfold setM; rw [e5]; rfl
      rw [e5, e6, e7]
      obtain rfl := h.p_
      obtain rfl := h.mg_
      exact setIn w h hK he hn
    | false =>
      have e5 : setE L n x = 4 := by unfold setE; rw [if_pos nr.1, if_pos nr.2, hn]; rfl
      have e6 : setL mg L n x = L := by unfold setL; rw [if_neg (by rw [e5]; decide)]
      have e7 : setM L n x = false := by unfold setM; rw [e5]; rfl
      rw [e5, e6, e7]
      have h5 : w.cell? ⟨p, 5, none⟩ = some (.map (some b)) := by have := TO.mpc h.ts.tx.to; rw [h.p_, h.ts.tx.mp] at this; exact this
      refine (setNo w hm h.lt h5 h.ts.tx.vm he (h.look_out hn)).mono ?_
      rintro e w1 ⟨rfl, hS⟩
      exact ⟨rfl, own T b, ⟨T, F, al, lv, b, c, pl, (h.step hS).mono (by omega), rfl⟩, Aft2.of_below hS⟩
  · have e5 := setE_ask (L := L) he
    have e6 : setL mg L n x = L := by unfold setL; rw [if_neg (by rw [e5]; exact he)]
    have e7 : setM L n x = false := by unfold setM; rw [e5, decide_eq_false he]; rfl
    rw [e5, e6, e7]
    refine (setErr w hm h.lt he).mono ?_
    rintro e w1 ⟨rfl, hS⟩
    exact ⟨rfl, own T b, ⟨T, F, al, lv, b, c, pl, (h.step hS).mono (by omega), rfl⟩, Aft2.of_below hS⟩
end TSt
end Go.Proofs.YtbcjnckejkjfeaaGreat
namespace Go.Proofs.YtbcjnckejkjfeaaGreat
set_option linter.unusedVariables false
set_option linter.unusedSimpArgs false
open Go.RowKit Go.NP
namespace DSl2
open TrW TrC TrA TrX TrE TSt DSl DPl DTr DDr
/-- Entries in a block of one's own. -/
structure OB (w : World) (g : Nat) (L : List En) : Prop where
  at_ : EAt w g 0 L
  free : ∀ o, w.frozen? ⟨g, o, none⟩ = false
  lt : g < w.heap.size
theorem OB.step {w w' : World} {g : Nat} {L : List En} (h : OB w g L) (hS : Below w.heap.size w w') : OB w' g L :=
  ⟨h.at_.step h.lt hS, fun o => by rw [← h.free o, (bcell hS).2 g o h.lt], by have := hS.size; have := h.lt; omega⟩
theorem put_out {w : World} {g o : Nat} (vs : List Value) {k : Nat} (h : k < o ∨ o + vs.length ≤ k) : (w.setCells g o vs).cell? ⟨g, k, none⟩ = w.cell? ⟨g, k, none⟩ :=
  World.cell?_setCells_out g vs o w ⟨g, k, none⟩ fun _ _ => h
theorem OB.other {w w' : World} {g : Nat} {L : List En} {S : Nat → Prop} (h : OB w g L) (hF : Fr w w' S) (hS : ¬ S g) : OB w' g L := by
  have hb := hF.block g h.lt hS
  refine ⟨fun k s hk j v hv => ?_, fun o => ?_, by have := hF.size; have := h.lt; omega⟩
  · have := h.at_ k s hk j v hv; simp only [World.cell?, hb] at this ⊢; exact this
  · have := h.free o; simp only [World.frozen?, hb] at this ⊢; exact this
theorem fr_cells (w : World) (g o : Nat) (vs : List Value) : Fr w (w.setCells g o vs) fun k => k = g :=
  Fr.of_mod (Mod.cells vs o w (Mod.refl w g g)) rfl rfl
theorem env_len (e : En) : (env e).length = 13 := rfl
theorem OB.there {w : World} {g z : Nat} {L : List En} {e : En} (h : OB w g L) (he : L[z]? = some e) (o n : Nat) (ho : o + n ≤ 13) : w.there g (z * 13 + o) n := fun j hj => by
  refine ⟨?_, h.free _⟩
  obtain ⟨v, hv⟩ : ∃ v, (env e)[o + j]? = some v := ⟨_, List.getElem?_eq_getElem (by rw [env_len]; omega)⟩
  have := h.at_ z e he (o + j) v hv
  rw [show z * 13 + o + j = 0 + z * 13 + (o + j) by omega, this]; rfl
/-- A part of an entry written. -/
theorem OB.put {w : World} {g z o : Nat} {L : List En} {e e' : En} {vs : List Value} (h : OB w g L) (he : L[z]? = some e) (ho : o + vs.length ≤ 13) (hin : ∀ j, j < vs.length → (env e')[o + j]? = vs[j]?) (hout : ∀ j, j < 13 → (j < o ∨ o + vs.length ≤ j) → (env e')[j]? = (env e)[j]?) :
    OB (w.setCells g (z * 13 + o) vs) g (L.set z e') := by
  refine ⟨fun k s hk j v hv => ?_, fun o' => by rw [World.frozen?_setCells]; exact h.free o', by have := (fr_cells w g (z * 13 + o) vs).size; have := h.lt; omega⟩
  have hj : j < 13 := by have := get_lt hv; rwa [env_len] at this
  by_cases hkz : k = z
  · subst hkz
    have hkl := get_lt he
    rw [List.getElem?_set_self hkl] at hk
    obtain rfl : e' = s := by simpa using hk
    by_cases hin' : o ≤ j ∧ j < o + vs.length
    · have h1 := World.cell?_setCells_in g vs (k * 13 + o) w (fun i hi => (OB.there h he o vs.length ho i hi).1) (j - o) (by omega)
      rw [show 0 + k * 13 + j = k * 13 + o + (j - o) by omega, h1]
      have h2 := hin (j - o) (by omega)
      rw [show o + (j - o) = j by omega, hv] at h2
      rw [h2, List.getElem?_eq_getElem (by omega)]
    · rw [put_out vs (by omega)]
      have := hout j hj (by omega)
      rw [hv] at this
      exact h.at_ k e he j v this.symm
  · rw [List.getElem?_set_ne (by omega)] at hk
    rw [put_out vs (by omega)]
    exact h.at_ k s hk j v hv
theorem OB.putB {w : World} {g z : Nat} {L : List En} {e : En} (h : OB w g L) (he : L[z]? = some e) (x : Bd) : OB (w.setCells g (z * 13 + 1) (bdv x)) g (L.set z { e with b := x }) :=
  OB.put h he (by simp [bdv]) (fun j hj => by
    have hj : j < 6 := hj
    rcases (by omega : j = 0 ∨ j = 1 ∨ j = 2 ∨ j = 3 ∨ j = 4 ∨ j = 5) with rfl | rfl | rfl | rfl | rfl | rfl <;> rfl) (fun j hj ho => by
    have ho : j < 1 ∨ 7 ≤ j := ho
    rcases (by omega : j = 0 ∨ j = 7 ∨ j = 8 ∨ j = 9 ∨ j = 10 ∨ j = 11 ∨ j = 12) with rfl | rfl | rfl | rfl | rfl | rfl | rfl <;> rfl)
theorem OB.putF {w : World} {g z : Nat} {L : List En} {e : En} (h : OB w g L) (he : L[z]? = some e) (x : Bd) : OB (w.setCells g (z * 13 + 7) (bdv x)) g (L.set z { e with fat := x }) :=
  OB.put h he (by simp [bdv]) (fun j hj => by
    have hj : j < 6 := hj
    rcases (by omega : j = 0 ∨ j = 1 ∨ j = 2 ∨ j = 3 ∨ j = 4 ∨ j = 5) with rfl | rfl | rfl | rfl | rfl | rfl <;> rfl) (fun j hj ho => by
    have ho : j < 7 ∨ 13 ≤ j := ho
    rcases (by omega : j = 0 ∨ j = 1 ∨ j = 2 ∨ j = 3 ∨ j = 4 ∨ j = 5 ∨ j = 6) with rfl | rfl | rfl | rfl | rfl | rfl | rfl <;> rfl)
theorem OB.fat {w : World} {g z : Nat} {L : List En} {e : En} (h : OB w g L) (he : L[z]? = some e) : At' w g (z * 13 + 7) (bdv e.fat) := fun j v hv => by
  have := h.at_ z e he (7 + j) v (by
    have hj : j < 6 := get_lt hv
    rw [← hv]
    rcases (by omega : j = 0 ∨ j = 1 ∨ j = 2 ∨ j = 3 ∨ j = 4 ∨ j = 5) with rfl | rfl | rfl | rfl | rfl | rfl <;> rfl)
  rw [show z * 13 + 7 + j = 0 + z * 13 + (7 + j) by omega]; exact this
theorem own_ob {w : World} {base : Nat} {v : Value} {L : List En} (h : OwnE w base v L) (h0 : 0 < L.length) : ∃ g cap, v = .slice (some ⟨g, 0, none⟩) L.length cap ∧ base ≤ g ∧ L.length ≤ cap ∧ OB w g L := by
  obtain ⟨b, off, c, e, hb, hs⟩ := DSl.own_at L.length h rfl h0
  rcases h.2 with ⟨rfl, e0⟩ | ⟨g, cap, cur, rfl, hbg, hg, hc, hm, hsz, hx⟩
  · omega
  · injection e with e1 e2 e3
    injection e1 with e1
    injection e1 with e4 e5
    subst e4; subst e5
    have hB : Box w g cur.toList 79 := by unfold Box; simpa using hg
    exact ⟨g, cap, rfl, hbg, hc, hs, fun o => hB.free o, hb⟩
theorem ob_dt {w : World} {t g n cap : Nat} {mg : Int} {L : List En} (h : OB w g L) (hb : Box w t [.int .i64 mg, .slice (some ⟨g, 0, none⟩) n cap] 30) (hn : L.length = n) (hc : n ≤ cap) (ht : t ≠ g) {P : Nat → Prop} (hP : P g) : DT w t mg L P :=
  ⟨some ⟨g, 0, none⟩, cap, ⟨hn ▸ hb, ⟨rfl, fun _ => ⟨g, 0, rfl, h.lt, h.at_⟩⟩, (fun e => by cases e), by omega, fun a e => by cases e; exact ⟨fun e => ht e.symm, h.lt⟩⟩, fun a e => by cases e; exact hP⟩
/-- The list with one entry turned. -/
theorem set_upd {L : List En} {q : Int} {e e' : En} (hr : Rise L) (hin : isIn L q = true) (he : L[(lo L q).length]? = some e) (hn : e'.n = q) : L.set (lo L q).length e' = TrE.upd L e' := by
  obtain ⟨x, r, h1, h2, _⟩ := hi_in hr hin
  unfold TrE.upd
  rw [hn, h1]
  have : (lo L q ++ hi L q).set (lo L q).length e' = lo L q ++ e' :: r := by rw [h1, List.set_append_right _ _ (Nat.le_refl _), Nat.sub_self]; rfl
  rwa [lo_hi] at this
end DSl2
end Go.Proofs.YtbcjnckejkjfeaaGreat
