/- A fresh node: the walk. Condition: not too many nodes. How much more a node would hold: hang's closure, its walk. Condition: both nodes are there. Trees of nodes by numbers, plainly: a leaf hung beside another one, a leaf taken off. No condition. A leaf hung: the walk. Condition: the leaf is a fresh node, the tree hangs right. A leaf taken off: the walk. Condition: the tree hangs right, the leaf is in it. Entries of a tree of bounds, rising by numbers: put, dropped, set; what is told of them. No condition. Maps by integers: an entry dropped, how many there are, ranged over. No condition. A tree in memory and its entries: what is so between calls. No condition. What stands against a number and a bound: asked, its walk. No condition. A bound put into a tree: the walk. Condition: the tree is there, and not too great. A bound dropped from a tree: the walk. Condition: the tree is there, and not too great. A bound set in a tree: the walk. Condition: the tree is there, and not too great. -/
import Derived.Test.YtbcjnckejkjfeaaTrX
import Derived.Test.YtbcjnckejkjfeaaTrM
import Derived.Test.YtbcjnckejkjfeaaQVm
import Derived.Maps.RangeWalk
import Derived.Test.YtbcjnckejkjfeaaBnd4
namespace Go.Proofs.Ytbcjnckejkjfeaa
set_option linter.unusedVariables false
set_option linter.unusedSimpArgs false
open Go.RowKit Go.NP
namespace TrY
open TrP TrW TrC TrA TrX QVl QVm
theorem szNs : (Try.prog.info? 55).map (·.size) = some 1 := by kernel_rfl
theorem szIs : (Try.prog.info? 29).map (·.size) = some 1 := by kernel_rfl
/-- What a fresh node leaves. -/
structure Fresh (w w' : World) (T : Tn) (F : List Int) (b c : Nat) (pl : Int → Option Int) (x : Nd) (at_ : Nat) (T' : Tn) (F' : List Int) : Prop where
  tx : TX w' T' F' b c pl
  p : T'.p = T.p
  top : T'.top = T.top
  mg : T'.mg = T.mg
  m : T'.m = st T.m at_ x
  lt : at_ < T'.N
  tn : TN w' T'
  how : F = F' ++ [(at_ : Int)] ∧ T'.N = T.N ∨ F = [] ∧ F' = [] ∧ at_ = T.N ∧ T'.N = T.N + 1
  fr : Fr w w' (own T b)
  ow : ∀ k, own T' b k → own T b k ∨ w.heap.size ≤ k
theorem heap_setCell (w : World) (a : Addr) (v : Value) (k : Nat) (h : k ≠ a.block) : (w.setCell a v).heap[k]? = w.heap[k]? := Below.heap_setCell _ _ _ _ h
theorem OwnV.cut {w : World} {base g n cap : Nat} {Ty : TypeId} {v : Value} {l : List Value} (h : OwnV w base Ty (.slice (some ⟨g, 0, none⟩) (n + 1) cap) (l ++ [v])) (hn : l.length = n) : OwnV w base Ty (.slice (some ⟨g, 0, none⟩) n cap) l := by
  unfold OwnV at *
  rw [hn]
  rw [List.length_append, hn] at h
  rcases h.2 with ⟨h1, _⟩ | ⟨g', cap', cur, h1, hb, hg, hc, hm, hsz, hx⟩
  · cases h1
  · cases h1
    refine ⟨by rw [hn]; omega, .inr ⟨g, cap, cur, rfl, hb, hg, by simp at hc; omega, hm, hsz, ?_⟩⟩
    have := congrArg (List.take n) hx
    rw [List.take_take] at this
    simp only [List.length_singleton, Nat.mul_one] at this ⊢
    rw [Nat.min_eq_left (by omega)] at this
    rw [this, List.take_append_of_le_length (by omega), List.take_of_length_le (by omega)]
theorem ownR_step {w w' : World} {nv : Value} {n : Nat} {l : List Value} (h : w.ownsRow 0 71 17 nv n l) (hS : Below w.heap.size w w') : w'.ownsRow 0 71 17 nv n l := by
  refine ⟨h.1, ?_⟩
  rcases h.2 with h1 | ⟨g, cap, cur, rfl, hb, hg, h2⟩
  · exact .inl h1
  · exact .inr ⟨g, cap, cur, rfl, hb, (hS.block g (Array.getElem?_eq_some_iff.1 hg).1).trans hg, h2⟩
section
variable {P : Program} {Q : Exit → Act → World → Prop} {ls es : List Nat} {Te : List (Nat × Option Tmp) → Act → Prop} {ops : Array Oper} {o : Oper} {r : List Oper} {acc : List (Nat × Option Tmp)} {a : Act} {i g : Nat} {W : World} {Pr : Kl} {l : List Value} {T ty : TypeId} {x : Operand} {d : TypeDesc}
theorem SeqO.rowG (ho : o.op = .load ty x) (hx : a.eval x = .pointer (some ⟨g, 0, none⟩)) (hB : Box W g l T) (hu : P.underlying ty = some d) (hd : (match d with | .struct _ | .array _ _ => true | _ => false) = true)
    (hsz : (P.info? ty).map (·.size) = some l.length) (hi : (!ls.contains i && !es.contains i && Pr.all fun e => e.1 != i) = true) (hw : Region.wanted o (yielded ops a.tmps) = true)
    (h2 : SeqO P ops Q (SG W Pr) ls es Te (i + 1) r acc (a.put o.dst (.agg l.toArray))) : SeqO P ops Q (SG W Pr) ls es Te i (o :: r) acc a :=
  SeqO.valG hi hw (fun w hb => run_load_row ho hx (hB.step hb) hu hd hsz) h2
end
set_option maxRecDepth 100000 in
set_option maxHeartbeats 4000000 in
theorem freshNew {T : Tn} {b c : Nat} {pl : Int → Option Int} {x : Nd} (w : World) (h : TX w T [] b c pl) (hN : T.N < 100000) :
    Calls Try.prog 38 #[.pointer (some ⟨T.p, 0, none⟩), .agg (ndv x).toArray] w fun e w' => ∃ at_ T' F', e = .returned (.int .i64 ((at_ : Nat) : Int)) ∧ Fresh w w' T [] b c pl x at_ T' F' := by
  obtain ⟨nv, c2, hown, hob, ⟨A, hA⟩, L, hL, hL2, hset⟩ := h.to.nv h.cl
  obtain ⟨A3, cap3, h3, hs3, hA3, hc3⟩ := h.fr.sl
  have c3 := h.to.fr
  rw [h3] at c3
  simp only [iv_len, List.length_nil] at c3 hc3
  have hp := h.pLt
  have HT := Lib.hid h
  have HO := Lib.hid hown
  have HB := Lib.hid hob
  have HL := Lib.hid hL
  have HS := Lib.hid hset
  clear h hown hob hA hs3 hA3 hL hset
  go_enter Try.func38, Try.ntmps38
  go_wp2_with fail
  have hB : Box (w.alloc (.cells (ndv x).toArray 71)) w.heap.size (ndv x) 71 := Box.new rfl
  have hS : Below w.heap.size w (w.alloc (.cells (ndv x).toArray 71)) := (Below.refl _ _).alloc (Nat.le_refl _) _
  obtain ⟨g0, hg0⟩ : ∃ g0, w.heap.size = g0 := ⟨_, rfl⟩
  have hT1 := HT.out.step hS
  have hO1 : (w.alloc (.cells (ndv x).toArray 71)).ownsRow 0 71 17 nv T.N (rows T.m T.N) := ownR_step HO.out hS
  have hL1 := HL.out.step hS
  have hF := Fr.of_below (S := own T b) hS
  revert hB hS hT1 hO1 hL1 hF
  rw [hg0]
  generalize w.alloc (.cells (ndv x).toArray 71) = w1
  intro hB hS hT1 hO1 hL1 hF
  clear HT HO HL c2 c3 hp
  have HT := Lib.hid hT1; have HO := Lib.hid hO1; have HL := Lib.hid hL1
  have c2 : w1.cell? ⟨T.p, 2, none⟩ = some nv := by rw [hL1.cell]; exact hL2
  have hp := hL1.lt
  clear hT1 hO1 hL1
  have HB0 := Lib.hid hB.lt
  have HBx := Lib.hid hB
  clear hB
  refine wp_region_ph [(1, .pure), (7, .free [6])] (by kernel_rfl) (by kernel_rfl) ?_
  refine Ph.pur (v := .pointer (some ⟨T.p, 0, none⟩)) (by rfl) (by rfl) ?hQ (by rfl) (fun w => by go_simp) ?_
  case hQ => intro c a v w h; exact h
  simp only [Act.put, List.setIfInBounds_toArray, List.set_cons_zero, List.set_cons_succ]
  refine Ph.gend [(6, newR w1.heap.size 1 (ndv x) 71)] (by rfl) ?_
  simp only [List.drop_succ_cons, List.drop_zero, List.take_succ_cons, List.take_zero, Nat.reduceSub, Nat.sub_zero]
  iterate 4 (refine SeqO.valG (v := ?_) (by rfl) (by rfl) (fun w1 hS => ?_) ?_; rotate_left; (· obtain ⟨hc, hcf⟩ := bcell hS; go_simp; try with_reducible rfl); simp only [Act.put, List.setIfInBounds_toArray, List.set_cons_zero, List.set_cons_succ])
  refine SeqO.rowG (l := ndv x) (by rfl) (by rfl) HBx.out Try.underlying71 (by rfl) (szN _) (by rfl) (by rfl) ?_
  simp only [Act.put, List.setIfInBounds_toArray, List.set_cons_zero, List.set_cons_succ]
  refine SeqO.newG (l := ndv x) (T := 71) (n := 1) (B := w1.heap.size) (by rfl) (by simp) (by rfl) (fun w => by simp only [ndv, bdv, List.cons_append, List.nil_append]; go_simp) (Nat.le_refl _) ?_
  refine SeqO.nilG (by rfl) fun u w2 hS2 hK => ?_
  obtain ⟨g1, hg1, hge1, hB1⟩ := hK _ (List.mem_cons_self ..)
  clear hK
  simp only [List.nil_append, List.cons_append, List.foldl_cons, List.foldl_nil, hg1]
  clear hg1
  have hB1 : Box w2 g1 (ndv x) 71 := hB1
  refine Ph.last ?_
  simp only [List.drop_succ_cons, List.drop_zero, List.take_succ_cons, List.take_zero, Nat.reduceSub, Nat.sub_zero]
  have hT2 := HT.out.step hS2
  have hO2 := ownR_step HO.out hS2
  have hL2' := HL.out.step hS2
  have hF2 := hF.trans (Fr.of_below (S := own T b) hS2) (fun j h => .inl h)
  have hat : At' w2 g1 0 (ndv x) := fun j v hv => by rw [hB1.cell, Nat.zero_add]; exact hv
  have hsz : g0 ≤ w2.heap.size := by rw [← hg0]; exact hF2.size
  clear HT HO HL HB0 HBx hB1 c2 hp hS2 hS hF
  refine wpL_appN (T := T) (nv := nv) (gx := g1) (z := x) (by rfl) (.tmp 43) (.tmp 45) (by rfl) (by rfl) hO2 (by rfl) hat (by omega) ?_
  intro w3 g' cap' L' hG hg' hBg hLen hC hcap hmax
  conv => arg 5; simp only [Act.put, List.setIfInBounds_toArray, List.set_cons_zero, List.set_cons_succ]
  have hblk : ∀ k, k < w2.heap.size → k ≠ T.g ∨ T.g = T.p → w3.heap[k]? = w2.heap[k]? := fun k hk hne => hG.block k hk fun e => by
    obtain ⟨h1, h2⟩ := HB.out k e.symm
    rcases hne with hne | hne
    · exact hne h1
    · exact h2 hne
  have hne' : g' ≠ T.p ∧ (g' = T.g ∨ g' = w2.heap.size) := by
    rcases hg' with h | h
    · obtain ⟨h1, h2⟩ := HB.out _ h
      exact ⟨by rw [h1]; exact h2, .inl h1⟩
    · exact ⟨by have := hT2.pLt; omega, .inr h⟩
  have hL3 : Box w3 T.p L 58 := Box.block hL2' (hblk _ hT2.pLt (by
    by_cases e : T.g = T.p
    · exact .inr e
    · exact .inl fun h => e h.symm))
  have c0 := hL3.cell 2
  rw [hL2] at c0
  have hfr : OwnV w3 0 3 T.fr (iv []) := hT2.fr.block fun k hk hlt => hblk k hlt (.inl (hT2.fp k hk).2.1)
  have hvm : VM w3 b (im pl) c := hT2.vm.block (hblk b hT2.vm.lt (.inl hT2.bg))
  have hF3 : Fr w w3 (own T b) := hF2.trans (S' := fun k => some k = nv.ownBlock) ⟨hG.os, hG.tape, hG.output, hG.size, fun k hk hn => hG.block k hk hn⟩ (fun k hk => .inl (.inr (.inl (HB.out k hk.symm).1)))
  have hT3 : TN (w3.setCell ⟨T.p, 2, none⟩ (.slice (some ⟨g', 0, none⟩) (T.N + 1 : Nat) cap')) { T with g := g', N := T.N + 1, cap := cap', m := st T.m T.N x } :=
    ⟨(hL3.set 2 _).cast (HS.out _ g' cap' (T.N + 1) rfl), ⟨L', hBg.other (fun e => hne'.1 e.symm) _, hLen, hC⟩, hcap, fun e => hne'.1 e.symm, by show T.N + 1 ≤ 100000; omega⟩
  have hX : TX (w3.setCell ⟨T.p, 2, none⟩ (.slice (some ⟨g', 0, none⟩) (T.N + 1 : Nat) cap')) { T with g := g', N := T.N + 1, cap := cap', m := st T.m T.N x } [] b c pl := by
    refine ⟨.inr hT3, hfr.block fun k hk _ => heap_setCell _ _ _ _ fun e => (hT2.fp k hk).1 e, hT2.mp, hvm.block (heap_setCell _ _ _ _ fun e => hT2.bp e), hT2.bp, ?_, fun k hk => ⟨(hT2.fp k hk).1, ?_, (hT2.fp k hk).2.2⟩, hmax⟩
    · show b ≠ g'
      rcases hne'.2 with e | e
      · rw [e]; exact hT2.bg
      · have := hT2.vm.lt; omega
    · show k ≠ g'
      rcases hne'.2 with e | e
      · rw [e]; exact (hT2.fp k hk).2.1
      · have := (hT2.fr.lt k hk).2; omega
  have hFr : Fr w (w3.setCell ⟨T.p, 2, none⟩ (.slice (some ⟨g', 0, none⟩) (T.N + 1 : Nat) cap')) (own T b) := hF3.trans (S' := fun k => k = T.p) ⟨rfl, rfl, rfl, by simp [World.setCell], fun k hk hn => heap_setCell _ _ _ _ hn⟩ (fun k hk => .inl (.inl hk))
  have hOw : ∀ k, own { T with g := g', N := T.N + 1, cap := cap', m := st T.m T.N x } b k → own T b k ∨ w.heap.size ≤ k := by
    intro k hk
    rcases hk with hk | hk | hk | hk
    · exact .inl (.inl hk)
    · rcases hne'.2 with e | e
      · exact .inl (.inr (.inl (hk.trans e)))
      · exact .inr (by have : k = g' := hk; omega)
    · exact .inl (.inr (.inr (.inl hk)))
    · exact .inl (.inr (.inr (.inr hk)))
  have FIN := Lib.hid (show Fresh w (w3.setCell ⟨T.p, 2, none⟩ (.slice (some ⟨g', 0, none⟩) (T.N + 1 : Nat) cap')) T [] b c pl x T.N { T with g := g', N := T.N + 1, cap := cap', m := st T.m T.N x } [] from
    ⟨hX, rfl, rfl, rfl, rfl, Nat.lt_succ_self _, hT3, .inr ⟨rfl, rfl, rfl, rfl⟩, hFr, hOw⟩)
  have c5 : (w3.setCell ⟨T.p, 2, none⟩ (.slice (some ⟨g', 0, none⟩) (T.N + 1 : Nat) cap')).cell? ⟨T.p, 2, none⟩ = some (.slice (some ⟨g', 0, none⟩) (T.N + 1 : Nat) cap') := hT3.nodes
  have f0 := hL3.free 2
  clear hX hFr hOw hT3 hF3 hvm hfr hblk hne' hBg hLen hC hG hg' hL3 hT2 hO2 hL2' hF2 hat
  iterate 2 (with_reducible refine wpL_val (v := ?_) ?_ ?_ ?_; rotate_left; (· kernel_rfl); (· go_simp; try with_reducible rfl); conv => arg 5; simp only [Act.put, List.setIfInBounds_toArray, List.set_cons_zero, List.set_cons_succ])
  refine wpL_sc (x := .tmp 48) (y := .tmp 46) (b := T.p) (off := 2) (v := .slice (some ⟨g', 0, none⟩) (T.N + 1 : Nat) cap') (by rfl) (by rfl) (by rfl) (by rfl) (by rfl) (by rfl) szNs (by rw [c0]; rfl) f0 ?_
  conv => arg 5; simp only [Act.put, List.setIfInBounds_toArray, List.set_cons_zero, List.set_cons_succ]
  refine wpList_nil ?_
  revert FIN c5
  generalize w3.setCell ⟨T.p, 2, none⟩ (.slice (some ⟨g', 0, none⟩) (T.N + 1 : Nat) cap') = w4
  intro FIN c5
  go_wp2_with fail
  exact bodyPost_ret (v := .int .i64 (T.N : Int)) (by simp [results, Try.results38, go_sem, *]) rfl ⟨T.N, _, [], rfl, FIN.out⟩
set_option maxRecDepth 100000 in
set_option maxHeartbeats 4000000 in
theorem freshFree {T : Tn} {b c k : Nat} {F0 : List Int} {pl : Int → Option Int} {x : Nd} (w : World) (h : TX w T (F0 ++ [(k : Int)]) b c pl) (hk : k < T.N) (hF : F0.length < 100000) :
    Calls Try.prog 38 #[.pointer (some ⟨T.p, 0, none⟩), .agg (ndv x).toArray] w fun e w' => ∃ at_ T' F', e = .returned (.int .i64 ((at_ : Nat) : Int)) ∧ Fresh w w' T (F0 ++ [(k : Int)]) b c pl x at_ T' F' := by
  have hT : TN w T := by
    rcases h.to with ⟨h0, _⟩ | h
    · omega
    · exact h
  obtain ⟨A, cap, h3, hs3, hA, hc3⟩ := h.fr.sl
  have hlen : (iv (F0 ++ [(k : Int)])).length = F0.length + 1 := by rw [iv_len, List.length_append]; rfl
  rw [hlen] at h3 hs3 hc3
  obtain ⟨gf, rfl⟩ : ∃ gf, A = some ⟨gf, 0, none⟩ := by
    rcases hA with ⟨_, _, e⟩ | h
    · rw [e] at hlen; cases hlen
    · exact h
  have ck : w.cell? ⟨gf, F0.length, none⟩ = some (.int .i64 (k : Int)) := by
    obtain ⟨b', off, e, _, h2⟩ := hs3.2 (by omega)
    cases e
    have := h2 F0.length (.int .i64 k) (by simp [iv])
    rwa [Nat.zero_add] at this
  have hgf : gf < w.heap.size := (h.fr.lt gf (by rw [h3]; rfl)).2
  have c3 := h.to.fr
  rw [h3] at c3
  obtain ⟨n, hn⟩ : ∃ n, F0.length = n := ⟨_, rfl⟩
  rw [hn] at c3 ck hc3 hF
  have hp := h.pLt
  have hg := (TN.lt hT).2
  have c2 := hT.nodes
  have k0 : 0 ≤ (k : Int) ∧ (k : Int) < T.N := by omega
  have v1 : IntKind.i64.wrap (n : Int) = n := by rw [IntKind.wrap_i64]; omega
  have f3 : w.frozen? ⟨T.p, 3, none⟩ = false := hT.box.free 3
  have HT := Lib.hid h; have HN := Lib.hid hT; have H3 := Lib.hid h3; have HLN := Lib.hid hn; have HLEN := Lib.hid hlen
  clear h hT h3 hs3 hA hlen hn
  go_enter Try.func38, Try.ntmps38
  go_wp2_with fail
  have e3 : T.fr = .slice (some ⟨gf, 0, none⟩) (n + 1) cap := H3.out.trans (by rw [HLN.out])
  obtain ⟨T1, hT1⟩ : ∃ T1 : Tn, { T with fr := .slice (some ⟨gf, 0, none⟩) n cap } = T1 := ⟨_, rfl⟩
  have hN1 : TN (w.setCell ⟨T.p, 3, none⟩ (.slice (some ⟨gf, 0, none⟩) n cap)) T1 := by rw [← hT1]; exact TN.setFr HN.out _
  have hX1 : TX (w.setCell ⟨T.p, 3, none⟩ (.slice (some ⟨gf, 0, none⟩) n cap)) T1 F0 b c pl := by
    have hgp : gf ≠ T.p := (HT.out.fp gf (by rw [e3]; rfl)).1
    refine ⟨.inr hN1, ?_, by rw [← hT1]; exact HT.out.mp, HT.out.vm.block (heap_setCell _ _ _ _ fun e => HT.out.bp e), by rw [← hT1]; exact HT.out.bp, by rw [← hT1]; exact HT.out.bg, fun j hj => ?_, by rw [← hT1]; exact HT.out.cl⟩
    · rw [← hT1]
      have := HT.out.fr
      rw [e3] at this
      refine (OwnV.cut (v := .int .i64 (k : Int)) (by simpa [iv] using this) (by rw [iv_len]; exact HLN.out)).block fun j hj _ => heap_setCell _ _ _ _ fun e => ?_
      have : gf = j := by simpa [Value.ownBlock] using hj
      rw [this] at hgp; exact hgp e
    · rw [← hT1] at hj ⊢
      have hj' : T.fr.ownBlock = some j := by rw [e3]; exact hj
      exact HT.out.fp j hj'
  have hF1 : Fr w (w.setCell ⟨T.p, 3, none⟩ (.slice (some ⟨gf, 0, none⟩) n cap)) (own T b) := ⟨rfl, rfl, rfl, by simp [World.setCell], fun k hk hn => heap_setCell _ _ _ _ fun e => hn (.inl e)⟩
  have hO1 : ∀ j, own T1 b j → own T b j := fun j hj => by
    rw [← hT1] at hj
    rcases hj with hj | hj | hj | hj
    · exact .inl hj
    · exact .inr (.inl hj)
    · exact .inr (.inr (.inl (by rw [e3]; exact hj)))
    · exact .inr (.inr (.inr hj))
  have hsz : (w.setCell ⟨T.p, 3, none⟩ (.slice (some ⟨gf, 0, none⟩) n cap)).heap.size = w.heap.size := by simp [World.setCell]
  revert hN1 hX1 hF1 hsz
  generalize w.setCell ⟨T.p, 3, none⟩ (.slice (some ⟨gf, 0, none⟩) n cap) = w1
  intro hN1 hX1 hF1 hsz
  have hB : Box (w1.alloc (.cells (ndv x).toArray 71)) w.heap.size (ndv x) 71 := Box.new hsz.symm
  have hS : Below w1.heap.size w1 (w1.alloc (.cells (ndv x).toArray 71)) := (Below.refl _ _).alloc (Nat.le_refl _) _
  have hN2 := hN1.step hS
  have hX2 := hX1.step hS
  have hF2 := hF1.trans (Fr.of_below (S := own T b) hS) (fun j h => .inl h)
  obtain ⟨g0, hg0⟩ : ∃ g0, w.heap.size = g0 := ⟨_, rfl⟩
  revert hB hN2 hX2 hF2
  rw [hg0]
  generalize w1.alloc (.cells (ndv x).toArray 71) = w2
  intro hB hN2 hX2 hF2
  clear hN1 hX1 hF1 hS c2 c3 ck hgf hp hg f3
  have hpT : T1.p = T.p ∧ T1.g = T.g ∧ T1.N = T.N ∧ T1.cap = T.cap ∧ T1.m = T.m ∧ T1.top = T.top ∧ T1.mg = T.mg := by rw [← hT1]; exact ⟨rfl, rfl, rfl, rfl, rfl, rfl, rfl⟩
  have c2 : w2.cell? ⟨T.p, 2, none⟩ = some (.slice (some ⟨T.g, 0, none⟩) T.N T.cap) := by have := hN2.nodes; rw [hpT.1, hpT.2.1, hpT.2.2.1, hpT.2.2.2.1] at this; exact this
  have hp := (TN.lt hN2).1
  rw [hpT.1] at hp
  have hN3 := Lib.hid hN2; have hX3 := Lib.hid hX2; have hF3 := Lib.hid hF2; have hO3 := Lib.hid hO1; have hB3 := Lib.hid hB; have P := Lib.hid hpT
  have hpT2 := hpT.2.1
  clear hN2 hX2 hF2 hO1 hB hT1 e3 hpT
  refine wp_region_ph [(7, .free [])] (by kernel_rfl) (by kernel_rfl) ?_
  refine Ph.belowd ?_
  simp only [List.drop_succ_cons, List.drop_zero, List.take_succ_cons, List.take_zero, Nat.reduceSub, Nat.sub_zero]
  iterate 5 (refine SeqO.val (v := ?_) (by rfl) (by rfl) (fun w1 hS => ?_) ?_; rotate_left; (· obtain ⟨hc, hcf⟩ := bcell hS; go_simp; try with_reducible rfl); simp only [Act.put, List.setIfInBounds_toArray, List.set_cons_zero, List.set_cons_succ])
  refine SeqO.row (l := ndv x) (by rfl) (by rfl) hB3.out Try.underlying71 (by rfl) (szN _) (by rfl) (by rfl) ?_
  simp only [Act.put, List.setIfInBounds_toArray, List.set_cons_zero, List.set_cons_succ]
  iterate 1 (refine SeqO.val (v := ?_) (by rfl) (by rfl) (fun w1 hS => ?_) ?_; rotate_left; (· obtain ⟨hc, hcf⟩ := bcell hS; go_simp; try with_reducible rfl); simp only [Act.put, List.setIfInBounds_toArray, List.set_cons_zero, List.set_cons_succ])
  refine SeqO.nil0 fun w3 hS3 => ?_
  refine Ph.last ?_
  simp only [List.drop_succ_cons, List.drop_zero, List.take_succ_cons, List.take_zero, Nat.reduceSub, Nat.sub_zero]
  have hk1 : k < T1.N := by rw [P.out.2.2.1]; exact hk
  have hN4 := hN3.out.step hS3
  refine wpList_store_mid (by rfl) 71 (.tmp 37) (.tmp 36) (by rfl) T.g (k * 17) (ndv x).toArray (by rfl) (by rfl) (by rw [← hpT2]; exact TN.thereN hN4 hk1) (by rw [szN x]; rfl) (nd_one x) ?_
  have hX4 := (hX3.out.step hS3).moved (m := st T1.m k x) (t := T1.top) (TN.putAll hN4 hk1 x) (Mod.cells _ _ _ (Mod.refl _ _ _))
  have hF4 := (hF3.out.trans (Fr.of_below (S := own T b) hS3) (fun j h => .inl h)).trans (Fr.of_mod (p := T1.p) (g := T1.g) (S := own T b) (Mod.cells (p := T1.p) (g := T1.g) (ndv x) (k * 17) w3 (Mod.refl _ _ _)) (.inl P.out.1) (.inr (.inl P.out.2.1))) (fun j h => .inl h)
  have hN5 := TN.putAll hN4 hk1 x
  have FIN := Lib.hid (show Fresh w (w3.setCells T1.g (k * 17) (ndv x)) T (F0 ++ [(k : Int)]) b c pl x k { T1 with m := st T1.m k x } F0 from
    ⟨hX4, P.out.1, P.out.2.2.2.2.2.1, P.out.2.2.2.2.2.2, by show st T1.m k x = _; rw [P.out.2.2.2.2.1], hk1, hN5, .inl ⟨rfl, P.out.2.2.1⟩, hF4, fun j hj => .inl (hO3.out j hj)⟩)
  rw [hpT2] at FIN
  clear hX4 hF4 hN5 hN4 c2 hp hN3 hX3 hF3 hO3 hB3
  refine wpList_nil ?_
  revert FIN
  show Hid (Fresh w (w3.setCells T.g (k * 17) (ndv x).toArray.toList) _ _ _ _ _ _ _ _ _) → _
  generalize w3.setCells T.g (k * 17) (ndv x).toArray.toList = w4
  intro FIN
  go_wp2_with fail
  exact bodyPost_ret (v := .int .i64 (k : Int)) (by simp [results, Try.results38, go_sem, *]) rfl ⟨k, _, F0, rfl, FIN.out⟩
/-- A fresh node, whatever is free. -/
theorem freshC {T : Tn} {b c : Nat} {F : List Int} {pl : Int → Option Int} {x : Nd} (w : World) (h : TX w T F b c pl) (hF : ∀ k ∈ F, 0 ≤ k ∧ k < T.N) (hl : F.length < 100000) (hN : F = [] → T.N < 100000) :
    Calls Try.prog 38 #[.pointer (some ⟨T.p, 0, none⟩), .agg (ndv x).toArray] w fun e w' => ∃ at_ T' F', e = .returned (.int .i64 ((at_ : Nat) : Int)) ∧ Fresh w w' T F b c pl x at_ T' F' := by
  rcases List.eq_nil_or_concat F with rfl | ⟨F0, k, rfl⟩
  · exact freshNew w h (hN rfl)
  · rw [List.concat_eq_append] at *
    have hk := hF k (by simp)
    obtain ⟨k, rfl⟩ : ∃ n : Nat, k = n := ⟨k.toNat, by omega⟩
    exact freshFree w h (by omega) (by simp at hl; omega)
end TrY
end Go.Proofs.Ytbcjnckejkjfeaa
namespace Go.Proofs.Ytbcjnckejkjfeaa
set_option linter.unusedVariables false
set_option linter.unusedSimpArgs false
open Go.RowKit Go.NP
namespace TrK
open TrP TrW TrC TrA TrX
theorem cf56 (args : Array Value) (w1 : World) : (callFunc 56 args).run Try.prog w1 = .ok (.enter 56 args) w1 := enters Try.func56 (by kernel_rfl) (by kernel_rfl) args w1
theorem cf55 (args : Array Value) (w1 : World) : (callFunc 55 args).run Try.prog w1 = .ok (.enter 55 args) w1 := enters Try.func55 (by kernel_rfl) (by kernel_rfl) args w1
def more (m : M) (a k : Int) : Int := size (join (m k).fat (m a).fat) - size (m k).fat
theorem fatAt {w : World} {T : Tn} (h : TN w T) {i : Nat} (hi : i < T.N) : At' w T.g (i * 17) (bdv (T.m i).fat) := fun j v hv => by
  refine h.cell hi ?_
  have hj : j < 6 := by
    rcases Nat.lt_or_ge j 6 with h | h
    · exact h
    · rw [List.getElem?_eq_none (by exact h)] at hv; cases hv
  show (bdv (T.m i).fat ++ bdv (T.m i).b ++ _)[j]? = _
  rw [List.append_assoc, List.getElem?_append_left (by exact hj)]; exact hv
set_option maxRecDepth 100000 in
set_option maxHeartbeats 2000000 in
theorem moreC {T : Tn} {k a gt ga : Nat} (w : World) (h : TN w T) (hk : k < T.N) (ha : a < T.N) (hgt : Box w gt [.pointer (some ⟨T.p, 0, none⟩)] 23) (hga : Box w ga [.int .i64 (a : Int)] 3) :
    RetB Try.prog 54 #[.int .i64 (k : Int), .pointer (some ⟨gt, 0, none⟩), .pointer (some ⟨ga, 0, none⟩)] w (.int .i64 (more T.m a k)) := by
  obtain ⟨fk, hfk⟩ : ∃ b, (T.m k).fat = b := ⟨_, rfl⟩
  obtain ⟨fa, hfa⟩ : ∃ b, (T.m a).fat = b := ⟨_, rfl⟩
  have r1 := size_range (a := join fk fa)
  have r2 := size_range (a := fk)
  have hw : IntKind.i64.wrap (size (join fk fa) - size fk) = size (join fk fa) - size fk := by rw [IntKind.wrap_i64]; omega
  have A1 := Lib.hid (fatAt h hk)
  have A2 := Lib.hid (fatAt h ha)
  have HM := Lib.hid (show more T.m a k = size (join fk fa) - size fk by unfold more; rw [hfk, hfa])
  rw [hfk] at A1
  rw [hfa] at A2
  have c2 := h.nodes
  have c5 := hgt.cell 0
  have c6 := hga.cell 0
  simp only [List.getElem?_cons_zero] at c5 c6
  obtain ⟨hp, hg⟩ := TN.lt h
  have l5 := hgt.lt
  have l6 := hga.lt
  have HG := Lib.hid hg
  have k0 : 0 ≤ (k : Int) ∧ (k : Int) < T.N := by omega
  have a0 : 0 ≤ (a : Int) ∧ (a : Int) < T.N := by omega
  rw [HM.out]
  clear h hfk hfa HM hgt hga r1 r2
  unfold RetB
  go_enter Try.func54, Try.ntmps54
  go_wp2_with fail
  refine wp_region_ph [(28, .free [])] (by kernel_rfl) (by kernel_rfl) ?_
  refine Ph.belowd ?_
  simp only [List.drop_succ_cons, List.drop_zero, List.take_succ_cons, List.take_zero, Nat.reduceSub, Nat.sub_zero]
  iterate 7 (refine SeqO.val (v := ?_) (by rfl) (by rfl) (fun w1 hS => ?_) ?_; rotate_left; (· obtain ⟨hc, hcf⟩ := bcell hS; go_simp; try with_reducible rfl); simp only [Act.put, List.setIfInBounds_toArray, List.set_cons_zero, List.set_cons_succ])
  refine SeqO.at (l := [.int .i64 fk.lo.x, .int .i64 fk.lo.y, .int .i64 fk.lo.z, .int .i64 fk.hi.x, .int .i64 fk.hi.y, .int .i64 fk.hi.z]) (by rfl) (by rfl) HG.out A1.out Try.underlying35 (by rfl) (by kernel_rfl) (by rfl) (by rfl) ?_
  simp only [Act.put, List.setIfInBounds_toArray, List.set_cons_zero, List.set_cons_succ]
  iterate 7 (refine SeqO.val (v := ?_) (by rfl) (by rfl) (fun w1 hS => ?_) ?_; rotate_left; (· obtain ⟨hc, hcf⟩ := bcell hS; go_simp; try with_reducible rfl); simp only [Act.put, List.setIfInBounds_toArray, List.set_cons_zero, List.set_cons_succ])
  refine SeqO.at (l := [.int .i64 fa.lo.x, .int .i64 fa.lo.y, .int .i64 fa.lo.z, .int .i64 fa.hi.x, .int .i64 fa.hi.y, .int .i64 fa.hi.z]) (by rfl) (by rfl) HG.out A2.out Try.underlying35 (by rfl) (by kernel_rfl) (by rfl) (by rfl) ?_
  simp only [Act.put, List.setIfInBounds_toArray, List.set_cons_zero, List.set_cons_succ]
  refine SeqO.callv (by rfl) (by rfl) (by rfl) cf56 (by simp [Act.eval]) (fun w1 hS => joinC fk fa w1) ?_
  simp only [Act.put, List.setIfInBounds_toArray, List.set_cons_zero, List.set_cons_succ]
  refine SeqO.callv (by rfl) (by rfl) (by rfl) cf55 (by simp [Act.eval]) (fun w1 hS => sizeC (join fk fa) w1) ?_
  simp only [Act.put, List.setIfInBounds_toArray, List.set_cons_zero, List.set_cons_succ]
  iterate 7 (refine SeqO.val (v := ?_) (by rfl) (by rfl) (fun w1 hS => ?_) ?_; rotate_left; (· obtain ⟨hc, hcf⟩ := bcell hS; go_simp; try with_reducible rfl); simp only [Act.put, List.setIfInBounds_toArray, List.set_cons_zero, List.set_cons_succ])
  refine SeqO.at (l := [.int .i64 fk.lo.x, .int .i64 fk.lo.y, .int .i64 fk.lo.z, .int .i64 fk.hi.x, .int .i64 fk.hi.y, .int .i64 fk.hi.z]) (by rfl) (by rfl) HG.out A1.out Try.underlying35 (by rfl) (by kernel_rfl) (by rfl) (by rfl) ?_
  simp only [Act.put, List.setIfInBounds_toArray, List.set_cons_zero, List.set_cons_succ]
  refine SeqO.callv (by rfl) (by rfl) (by rfl) cf55 (by simp [Act.eval]) (fun w1 hS => sizeC fk w1) ?_
  simp only [Act.put, List.setIfInBounds_toArray, List.set_cons_zero, List.set_cons_succ]
  iterate 1 (refine SeqO.val (v := ?_) (by rfl) (by rfl) (fun w1 hS => ?_) ?_; rotate_left; (· obtain ⟨hc, hcf⟩ := bcell hS; go_simp; try with_reducible rfl); simp only [Act.put, List.setIfInBounds_toArray, List.set_cons_zero, List.set_cons_succ])
  refine SeqO.nil0 fun w1 hS => ?_
  refine Ph.last ?_
  simp only [List.drop_succ_cons, List.drop_zero, List.take_succ_cons, List.take_zero, Nat.reduceSub, Nat.sub_zero]
  go_wp2_with fail
  exact bodyPost_ret (v := .int .i64 (size (join fk fa) - size fk)) (by simp [results, Try.results54, go_sem, *]) rfl ⟨rfl, hS⟩
end TrK
end Go.Proofs.Ytbcjnckejkjfeaa
namespace Go.NP
set_option linter.unusedVariables false
set_option linter.unusedSimpArgs false
namespace TrP
open Tr Cx
/-- What fits a hole is mended from the node above on. -/
theorem MI.of_hole {m0 m : M} {c : Cx} {t : Tr} {H : Int} {all0 lv0 : List Int} (hK : Kept m0 m all0) (hr : Rep m c.up t) (hc : RepC m c t.ix) (hf : Fit m t) (hfc : FitC m c) (ha : Apart c t.all) (hb : t.Bal) (hBC : BalC c H) (h1 : t.hgt ≤ H + 1) (h2 : H ≤ t.hgt + 1)
    (hA : (t.all ++ c.all).Perm all0) (hL : (t.lv ++ c.lv).Perm lv0) : MI m0 m (c.root t.ix) c.up c.len all0 lv0 := by
  refine ⟨hK, ?_⟩
  cases c with
  | top => exact .inl ⟨rfl, rfl, t, hr, hf, by simpa [Cx.all] using hA, by simpa [Cx.lv] using hL, rfl, hb⟩
  | inl j c r2 =>
    refine .inr ⟨c, j, t, r2, rfl, rfl, ⟨?_, hc.2.2.2.2.2, hf, hfc.1, hfc.2, rfl, ha.node_l (List.Perm.refl _)⟩, ⟨_, ⟨hb, hBC.1, H, r2.hgt, rfl, hBC.2.1, hBC.2.2.1, .inr (.inl ⟨rfl, by omega, by omega⟩)⟩, hBC.2.2.2⟩, ?_, ?_⟩
    · exact ⟨hc.1, hc.2.1, hc.2.2.1, hc.2.2.2.1, hr, hc.2.2.2.2.1⟩
    · refine List.Perm.trans ?_ hA
      show ((j :: (t.all ++ r2.all)) ++ c.all).Perm (t.all ++ (j :: (r2.all ++ c.all)))
      refine List.Perm.trans ?_ (List.perm_middle (l₁ := t.all) (a := j) (l₂ := r2.all ++ c.all)).symm
      rw [List.cons_append, List.append_assoc]
    · refine List.Perm.trans ?_ hL
      show ((t.lv ++ r2.lv) ++ c.lv).Perm (t.lv ++ (r2.lv ++ c.lv))
      rw [List.append_assoc]
  | inr j l2 c =>
    refine .inr ⟨c, j, l2, t, rfl, rfl, ⟨?_, hc.2.2.2.2.2, hfc.1, hf, hfc.2, rfl, ha.node_r (List.Perm.refl _)⟩, ⟨_, ⟨hBC.1, hb, l2.hgt, H, rfl, hBC.2.2.1, hBC.2.1, .inl ⟨rfl, by omega, by omega⟩⟩, hBC.2.2.2⟩, ?_, ?_⟩
    · exact ⟨hc.1, hc.2.1, hc.2.2.1, hc.2.2.2.1, hc.2.2.2.2.1, hr⟩
    · refine List.Perm.trans ?_ hA
      show ((j :: (l2.all ++ t.all)) ++ c.all).Perm (t.all ++ (j :: (l2.all ++ c.all)))
      refine List.Perm.trans ?_ (List.perm_middle (l₁ := t.all) (a := j) (l₂ := l2.all ++ c.all)).symm
      rw [List.cons_append]
      refine List.Perm.cons j ?_
      rw [← List.append_assoc]
      exact List.Perm.append_right _ List.perm_append_comm
    · refine List.Perm.trans ?_ hL
      show ((l2.lv ++ t.lv) ++ c.lv).Perm (t.lv ++ (l2.lv ++ c.lv))
      rw [← List.append_assoc]
      exact List.Perm.append_right _ List.perm_append_comm
/-- What is so at the end of the mending. -/
structure Whole (m : M) (top_ : Int) (al lv : List Int) (T : Tr) : Prop where
  rep : Rep m (-1) T
  fit : Fit m T
  bal : T.Bal
  top_is : top_ = T.ix
  all : T.all.Perm al
  lv : T.lv.Perm lv
theorem MI.end_ {m0 m : M} {top_ : Int} {k : Nat} {al lv : List Int} (h : MI m0 m top_ (-1) k al lv) : Kept m0 m al ∧ ∃ T, Whole m top_ al lv T := by
  obtain ⟨hK, ⟨_, _, T, h1, h2, h3, h4, h5, h6⟩ | ⟨c, i, l, r, hi, _, hM, _⟩⟩ := h
  · exact ⟨hK, T, h1, h2, h6, h5, h3, h4⟩
  · have := hM.ap.pos i (List.mem_cons_self ..)
    omega
/-- A place in the tree, and all around it. -/
structure Foc (m : M) (c : Cx) (s : Tr) : Prop where
  rep : Rep m c.up s
  repc : RepC m c s.ix
  fit : Fit m s
  fitc : FitC m c
  bal : s.Bal
  balc : BalC c s.hgt
  ap : Apart c s.all
theorem Foc.start {m : M} {t : Tr} (h1 : Rep m (-1) t) (h2 : Fit m t) (h3 : t.Bal) (h4 : t.all.Nodup) (h5 : ∀ i ∈ t.all, 0 ≤ i) : Foc m top t :=
  ⟨h1, trivial, h2, trivial, h3, trivial, ⟨h4, List.nodup_nil, fun _ _ h => (by cases h), h5, fun _ h => (by cases h)⟩⟩
theorem Foc.left {m : M} {c : Cx} {i : Int} {l r : Tr} (h : Foc m c (node i l r)) : Foc m (inl i c r) l := by
  obtain ⟨b1, b2, b3, b4⟩ := h.bal
  have nd := List.nodup_cons.1 h.ap.nd
  obtain ⟨n1, n2, n3⟩ := List.nodup_append.1 nd.2
  have mi : i ∈ (node i l r).all := List.mem_cons_self ..
  have ml : ∀ k ∈ l.all, k ∈ (node i l r).all := fun k hk => List.mem_cons_of_mem _ (List.mem_append_left _ hk)
  have mr : ∀ k ∈ r.all, k ∈ (node i l r).all := fun k hk => List.mem_cons_of_mem _ (List.mem_append_right _ hk)
  refine ⟨h.rep.2.2.2.2.1, ⟨h.rep.1, h.rep.2.1, h.rep.2.2.1, h.rep.2.2.2.1, h.rep.2.2.2.2.2, h.repc⟩, h.fit.2.2.1, ⟨h.fit.2.2.2, h.fitc⟩, b1, ⟨b2, b3, b4, h.balc⟩, ⟨n1, ?_, ?_, fun k hk => h.ap.pos k (ml k hk), ?_⟩⟩
  · refine List.nodup_cons.2 ⟨fun hm => ?_, List.nodup_append.2 ⟨n2, h.ap.nc, fun a ha b hb e => h.ap.dis a (mr a ha) (e ▸ hb)⟩⟩
    rcases List.mem_append.1 hm with hm | hm
    · exact nd.1 (List.mem_append_right _ hm)
    · exact h.ap.dis i mi hm
  · intro k hk hm
    rcases List.mem_cons.1 hm with e | hm
    · exact nd.1 (e ▸ List.mem_append_left _ hk)
    · rcases List.mem_append.1 hm with hm | hm
      · exact n3 k hk k hm rfl
      · exact h.ap.dis k (ml k hk) hm
  · intro k hk
    rcases List.mem_cons.1 hk with e | hm
    · exact h.ap.pos k (e ▸ mi)
    · rcases List.mem_append.1 hm with hm | hm
      · exact h.ap.pos k (mr k hm)
      · exact h.ap.posc k hm
theorem Foc.right {m : M} {c : Cx} {i : Int} {l r : Tr} (h : Foc m c (node i l r)) : Foc m (inr i l c) r := by
  obtain ⟨b1, b2, b3, b4⟩ := h.bal
  have nd := List.nodup_cons.1 h.ap.nd
  obtain ⟨n1, n2, n3⟩ := List.nodup_append.1 nd.2
  have mi : i ∈ (node i l r).all := List.mem_cons_self ..
  have ml : ∀ k ∈ l.all, k ∈ (node i l r).all := fun k hk => List.mem_cons_of_mem _ (List.mem_append_left _ hk)
  have mr : ∀ k ∈ r.all, k ∈ (node i l r).all := fun k hk => List.mem_cons_of_mem _ (List.mem_append_right _ hk)
  refine ⟨h.rep.2.2.2.2.2, ⟨h.rep.1, h.rep.2.1, h.rep.2.2.1, h.rep.2.2.2.1, h.rep.2.2.2.2.1, h.repc⟩, h.fit.2.2.2, ⟨h.fit.2.2.1, h.fitc⟩, b2, ⟨b1, b4, b3, h.balc⟩, ⟨n2, ?_, ?_, fun k hk => h.ap.pos k (mr k hk), ?_⟩⟩
  · refine List.nodup_cons.2 ⟨fun hm => ?_, List.nodup_append.2 ⟨n1, h.ap.nc, fun a ha b hb e => h.ap.dis a (ml a ha) (e ▸ hb)⟩⟩
    rcases List.mem_append.1 hm with hm | hm
    · exact nd.1 (List.mem_append_left _ hm)
    · exact h.ap.dis i mi hm
  · intro k hk hm
    rcases List.mem_cons.1 hm with e | hm
    · exact nd.1 (e ▸ List.mem_append_right _ hk)
    · rcases List.mem_append.1 hm with hm | hm
      · exact n3 k hm k hk rfl
      · exact h.ap.dis k (mr k hk) hm
  · intro k hk
    rcases List.mem_cons.1 hk with e | hm
    · exact h.ap.pos k (e ▸ mi)
    · rcases List.mem_append.1 hm with hm | hm
      · exact h.ap.pos k (ml k hm)
      · exact h.ap.posc k hm
theorem perm_left (i : Int) (c : Cx) (l r : Tr) : (l.all ++ (inl i c r).all).Perm ((node i l r).all ++ c.all) := by
  show (l.all ++ (i :: (r.all ++ c.all))).Perm ((i :: (l.all ++ r.all)) ++ c.all)
  refine List.perm_middle.trans ?_
  rw [List.cons_append, List.append_assoc]
theorem perm_right (i : Int) (c : Cx) (l r : Tr) : (r.all ++ (inr i l c).all).Perm ((node i l r).all ++ c.all) := by
  show (r.all ++ (i :: (l.all ++ c.all))).Perm ((i :: (l.all ++ r.all)) ++ c.all)
  refine List.perm_middle.trans ?_
  rw [List.cons_append, ← List.append_assoc]
  exact List.Perm.cons i (List.Perm.append_right _ List.perm_append_comm)
theorem plv_left (i : Int) (c : Cx) (l r : Tr) : (l.lv ++ (inl i c r).lv).Perm ((node i l r).lv ++ c.lv) := by
  show (l.lv ++ (r.lv ++ c.lv)).Perm ((l.lv ++ r.lv) ++ c.lv)
  rw [List.append_assoc]
theorem plv_right (i : Int) (c : Cx) (l r : Tr) : (r.lv ++ (inr i l c).lv).Perm ((node i l r).lv ++ c.lv) := by
  show (r.lv ++ (l.lv ++ c.lv)).Perm ((l.lv ++ r.lv) ++ c.lv)
  rw [← List.append_assoc]
  exact List.Perm.append_right _ List.perm_append_comm
/-- A leaf is found. -/
theorem Foc.find {m : M} {at_ : Int} : ∀ {s : Tr} {c : Cx}, Foc m c s → at_ ∈ s.lv → ∃ c', Foc m c' (leaf at_) ∧ c'.root at_ = c.root s.ix ∧ (at_ :: c'.all).Perm (s.all ++ c.all) ∧ (at_ :: c'.lv).Perm (s.lv ++ c.lv)
  | leaf i, c, h, hm => by obtain rfl := List.mem_singleton.1 hm; exact ⟨c, h, rfl, List.Perm.refl _, List.Perm.refl _⟩
  | node i l r, c, h, hm => by
    rcases List.mem_append.1 hm with hm | hm
    · obtain ⟨c', h1, h2, h3, h4⟩ := Foc.find h.left hm
      exact ⟨c', h1, h2, h3.trans (perm_left i c l r), h4.trans (plv_left i c l r)⟩
    · obtain ⟨c', h1, h2, h3, h4⟩ := Foc.find h.right hm
      exact ⟨c', h1, h2, h3.trans (perm_right i c l r), h4.trans (plv_right i c l r)⟩
theorem same_setU {m : M} {i k : Int} : Same m (st m i ((m i).setU k)) := same_st rfl rfl fun _ => rfl
theorem Changed.same {m m' : M} {c : Cx} {now : Int} (h : Changed m m' c now) : Same m m' := fun i => by
  by_cases e : i = now
  · subst e; rw [h.at_]; exact ⟨rfl, rfl, fun _ => rfl⟩
  · obtain ⟨h1, h2, h3, h4, h5⟩ := h.upn i e; exact ⟨h2, h4, fun _ => h1⟩
/-- A leaf hung beside another one. -/
theorem hang_ok {m : M} {c : Cx} {bs at_ bo : Int} {x : Nd} (hf : Foc m c (leaf bs)) (hat : at_ ≠ bs ∧ at_ ∉ c.all ∧ 0 ≤ at_) (hbo : bo ≠ bs ∧ bo ≠ at_ ∧ bo ∉ c.all ∧ 0 ≤ bo) (hx : x.n = 0 ∧ x.u = c.up ∧ x.l = bs ∧ x.r = at_)
    (hl : 1 ≤ (m at_).n ∧ (m at_).h = 0 ∧ holds (m at_).fat (m at_).b = true) :
    ∃ m2 m4, change (st m bo x) (c.root bs) c.up bs bo = (m2, c.root bo) ∧ st (st m2 bs ((m2 bs).setU bo)) at_ ((st m2 bs ((m2 bs).setU bo) at_).setU bo) = m4 ∧
      MI (st m bo x) m4 (c.root bo) bo (c.len + 1) (bo :: bs :: at_ :: c.all) (bs :: at_ :: c.lv) := by
  have bsc : bs ∉ c.all := hf.ap.dis bs (List.mem_singleton.2 rfl)
  have bs0 : 0 ≤ bs := hf.ap.pos bs (List.mem_singleton.2 rfl)
  obtain ⟨m1, hm1⟩ : ∃ m1, st m bo x = m1 := ⟨_, rfl⟩
  have e1 : ∀ k, k ≠ bo → m1 k = m k := fun k hk => by rw [← hm1, st_ne hk]
  have e1b : m1 bo = x := by rw [← hm1, st_at]
  rw [hm1]
  have hc1 : RepC m1 c bs := hf.repc.frame fun k hk => e1 k fun e => hbo.2.2.1 (e ▸ hk)
  obtain ⟨m2, h2, c2⟩ := change_hole (now := bo) hc1 bsc hbo.2.2.1 hf.ap.nc hf.ap.posc hbo.2.2.2
  obtain ⟨m4, hm4⟩ : ∃ m4, st (st m2 bs ((m2 bs).setU bo)) at_ ((st m2 bs ((m2 bs).setU bo) at_).setU bo) = m4 := ⟨_, rfl⟩
  refine ⟨m2, m4, h2, hm4, ?_⟩
  have upb : bs ≠ c.up := hf.ap.up (List.mem_singleton.2 rfl)
  have upa : at_ ≠ c.up := fun e => by
    rcases up_in (c := c) with h | h
    · have := hat.2.2; omega
    · exact hat.2.1 (e ▸ h)
  have m2s : m2 bs = m bs := by rw [c2.oth bs hbo.1.symm upb, e1 bs hbo.1.symm]
  have m2a : m2 at_ = m at_ := by rw [c2.oth at_ hbo.2.1.symm upa, e1 at_ hbo.2.1.symm]
  have m4s : m4 bs = (m bs).setU bo := by rw [← hm4, st_ne hat.1.symm, st_at, m2s]
  have m4a : m4 at_ = (m at_).setU bo := by rw [← hm4, st_at, st_ne hat.1, m2a]
  have m4o : ∀ k, k ≠ bs → k ≠ at_ → m4 k = m2 k := fun k h1 h2 => by rw [← hm4, st_ne h2, st_ne h1]
  have m4b : m4 bo = x.setU c.up := by rw [m4o bo hbo.1 hbo.2.1, c2.at_, e1b]
  have m4c : ∀ k ∈ c.all, m4 k = m2 k := fun k hk => m4o k (fun e => bsc (e ▸ hk)) (fun e => hat.2.1 (e ▸ hk))
  have frs : m4 bs = { m bs with u := bo } := m4s
  have hrl : 1 ≤ (m bs).n := hf.rep.2
  have hfl : (m bs).h = 0 ∧ holds (m bs).fat (m bs).b = true := hf.fit
  have S1 : Same m1 m4 := (c2.same.trans same_setU).trans (by rw [← hm4]; exact same_setU)
  have hup : ∀ k, k ≠ bo → k ∉ c.all → m2 k = m1 k := fun k h1 h3 => by
    cases c with
    | top =>
      have hb1 : bo ≠ -1 := by have := hbo.2.2.2; omega
      have := (change_top (m := m1) (t0 := Cx.root top bs) (was := bs) (now := bo) hb1).symm.trans h2
      have := congrArg Prod.fst this
      simp only at this
      rw [← this, st_ne h1]
    | inl i c r => exact c2.oth k h1 (fun e => h3 (e ▸ List.mem_cons_self ..))
    | inr i l c => exact c2.oth k h1 (fun e => h3 (e ▸ List.mem_cons_self ..))
  have O1 : ∀ k, k ∉ bo :: bs :: at_ :: c.all → m4 k = m1 k := fun k hk => by
    simp only [List.mem_cons, not_or] at hk
    rw [m4o k hk.2.1 hk.2.2.1, hup k hk.1 hk.2.2.2]
  have hfa : Fit m4 (leaf at_) := by
    show (m4 at_).h = 0 ∧ holds (m4 at_).fat (m4 at_).b = true
    rw [m4a]; exact hl.2
  have hfs : Fit m4 (leaf bs) := by
    show (m4 bs).h = 0 ∧ holds (m4 bs).fat (m4 bs).b = true
    rw [m4s]; exact hfl
  refine ⟨⟨S1, O1⟩, .inr ⟨c, bo, leaf bs, leaf at_, rfl, rfl, ⟨⟨?_, ?_, ?_, ?_, ⟨?_, ?_⟩, ⟨?_, ?_⟩⟩, c2.rep.frame m4c, hfs, hfa, hf.fitc.frame fun k hk => ?_, rfl, ?_⟩, ⟨0, ⟨trivial, trivial, -1, -1, by decide, by decide, by decide, .inr (.inr ⟨rfl, rfl, rfl, rfl⟩)⟩, hf.balc⟩, List.Perm.refl _, List.Perm.refl _⟩⟩
  · rw [m4b]; rfl
  · rw [m4b]; exact hx.1
  · rw [m4b]; exact hx.2.2.1
  · rw [m4b]; exact hx.2.2.2
  · show (m4 bs).u = bo; rw [m4s]; rfl
  · rw [m4s]; exact hrl
  · show (m4 at_).u = bo; rw [m4a]; rfl
  · rw [m4a]; exact hl.1
  · rw [m4c k hk]
    obtain ⟨h1, h3, h4, _, _⟩ := c2.upn k fun e => hbo.2.2.1 (e ▸ hk)
    rw [h1, h3, h4, e1 k fun e => hbo.2.2.1 (e ▸ hk)]
    exact ⟨rfl, rfl, rfl⟩
  · refine ⟨?_, hf.ap.nc, ?_, ?_, hf.ap.posc⟩
    · show [bo, bs, at_].Nodup
      simp [hbo.1, hbo.2.1, hat.1.symm]
    · intro k hk
      have : k = bo ∨ k = bs ∨ k = at_ := by simpa [Tr.all] using hk
      rcases this with rfl | rfl | rfl
      · exact hbo.2.2.1
      · exact bsc
      · exact hat.2.1
    · intro k hk
      have : k = bo ∨ k = bs ∨ k = at_ := by simpa [Tr.all] using hk
      rcases this with rfl | rfl | rfl
      · exact hbo.2.2.2
      · exact bs0
      · exact hat.2.2
theorem change_out {m m' : M} {c : Cx} {was now t1 t2 : Int} (h2 : change m t1 c.up was now = (m', t2)) (c2 : Changed m m' c now) (hn : 0 ≤ now) : ∀ k, k ≠ now → k ∉ c.all → m' k = m k := fun k h1 h3 => by
  cases c with
  | top =>
    have hb1 : now ≠ -1 := by omega
    have := (change_top (m := m) (t0 := t1) (was := was) (now := now) hb1).symm.trans h2
    have := congrArg Prod.fst this
    simp only at this
    rw [← this, st_ne h1]
  | inl i c r => exact c2.oth k h1 (fun e => h3 (e ▸ List.mem_cons_self ..))
  | inr i l c => exact c2.oth k h1 (fun e => h3 (e ▸ List.mem_cons_self ..))
/-- What hangs beside a leaf takes the place of the node above both. -/
theorem cut_ok {m : M} {c : Cx} {i : Int} {s : Tr} {H : Int} (hr : Rep m i s) (hc : RepC m c i) (hf : Fit m s) (hfc : FitC m c) (ha : Apart c s.all) (hi : i ∉ c.all) (hb : s.Bal) (hBC : BalC c H) (h1 : s.hgt ≤ H + 1) (h2 : H ≤ s.hgt + 1) :
    ∃ m2, change m (c.root i) c.up i s.ix = (m2, c.root s.ix) ∧ MI m m2 (c.root s.ix) c.up c.len (s.all ++ c.all) (s.lv ++ c.lv) := by
  have sc : s.ix ∉ c.all := ha.dis _ s.ix_all
  have s0 : 0 ≤ s.ix := ha.pos _ s.ix_all
  obtain ⟨m2, e2, c2⟩ := change_hole (now := s.ix) hc hi sc ha.nc ha.posc s0
  refine ⟨m2, e2, ?_⟩
  have so : ∀ k ∈ s.all, k ≠ s.ix → m2 k = m k := fun k hk hne => c2.oth k hne (ha.up hk)
  refine MI.of_hole ⟨c2.same, fun k hk => ?_⟩ (hr.reup ha.nd so c2.at_) c2.rep ?_ (hfc.frame fun k hk => ?_) ha hb hBC h1 h2 (List.Perm.refl _) (List.Perm.refl _)
  · simp only [List.mem_append, not_or] at hk
    exact change_out e2 c2 s0 k (fun e => hk.1 (e ▸ s.ix_all)) hk.2
  · refine hf.frame fun k hk => ?_
    by_cases e : k = s.ix
    · subst e; rw [c2.at_]; exact ⟨rfl, rfl, rfl⟩
    · rw [so k hk e]; exact ⟨rfl, rfl, rfl⟩
  · obtain ⟨h1, h3, h4, _, _⟩ := c2.upn k fun e => sc (e ▸ hk)
    exact ⟨h1, h3, h4⟩
/-- A leaf's place: the node above it, and what hangs beside. -/
theorem Foc.above {m : M} {c : Cx} {at_ : Int} (h : Foc m c (leaf at_)) : c = top ∨ ∃ c' s i, (m i).l + (m i).r - at_ = s.ix ∧ c.up = i ∧ (m i).u = c'.up ∧ Rep m i s ∧ RepC m c' i ∧ Fit m s ∧ FitC m c' ∧ Apart c' s.all ∧ i ∉ c'.all ∧ s.Bal ∧ (∃ H, BalC c' H ∧ s.hgt ≤ H + 1 ∧ H ≤ s.hgt + 1) ∧ c.root at_ = c'.root i ∧ c.all.Perm (i :: (s.all ++ c'.all)) ∧ c.lv = s.lv ++ c'.lv ∧ 0 ≤ i ∧ i ∉ s.all := by
  obtain ⟨hr, hc, hf, hfc, hb, hBC, ap⟩ := h
  cases c with
  | top => exact .inl rfl
  | inl i c r =>
    have nd := List.nodup_cons.1 ap.nc
    obtain ⟨n1, n2, n3⟩ := List.nodup_append.1 nd.2
    refine .inr ⟨c, r, i, ?_, rfl, hc.1, hc.2.2.2.2.1, hc.2.2.2.2.2, hfc.1, hfc.2, ⟨n1, n2, fun k hk hm => n3 k hk k hm rfl, fun k hk => ap.posc k (List.mem_cons_of_mem _ (List.mem_append_left _ hk)), fun k hk => ap.posc k (List.mem_cons_of_mem _ (List.mem_append_right _ hk))⟩, fun hm => nd.1 (List.mem_append_right _ hm), hBC.1, ⟨_, hBC.2.2.2, ?_, ?_⟩, rfl, List.Perm.refl _, rfl, ap.posc i (List.mem_cons_self ..), fun hm => nd.1 (List.mem_append_left _ hm)⟩
    · rw [hc.2.2.1, hc.2.2.2.1]; show at_ + r.ix - at_ = _; omega
    · have := r.hgt_lt; simp only [Tr.hgt]; omega
    · have := r.hgt_lt; have := hBC.2.2.1; simp only [Tr.hgt] at *; omega
  | inr i l c =>
    have nd := List.nodup_cons.1 ap.nc
    obtain ⟨n1, n2, n3⟩ := List.nodup_append.1 nd.2
    refine .inr ⟨c, l, i, ?_, rfl, hc.1, hc.2.2.2.2.1, hc.2.2.2.2.2, hfc.1, hfc.2, ⟨n1, n2, fun k hk hm => n3 k hk k hm rfl, fun k hk => ap.posc k (List.mem_cons_of_mem _ (List.mem_append_left _ hk)), fun k hk => ap.posc k (List.mem_cons_of_mem _ (List.mem_append_right _ hk))⟩, fun hm => nd.1 (List.mem_append_right _ hm), hBC.1, ⟨_, hBC.2.2.2, ?_, ?_⟩, rfl, List.Perm.refl _, rfl, ap.posc i (List.mem_cons_self ..), fun hm => nd.1 (List.mem_append_left _ hm)⟩
    · rw [hc.2.2.1, hc.2.2.2.1]; show l.ix + at_ - at_ = _; omega
    · have := l.hgt_lt; simp only [Tr.hgt]; omega
    · have := l.hgt_lt; have := hBC.2.2.1; simp only [Tr.hgt] at *; omega
end TrP
end Go.NP
namespace Go.Proofs.Ytbcjnckejkjfeaa
set_option linter.unusedVariables false
set_option linter.unusedSimpArgs false
open Go.RowKit Go.NP
namespace THg
open TrP TrW TrC TrA TrF TrG TrX TrY TrK
theorem cf54 (args : Array Value) (w1 : World) : (callFunc 54 args).run Try.prog w1 = .ok (.enter 54 args) w1 := enters Try.func54 (by kernel_rfl) (by kernel_rfl) args w1
/-- The nodes hang as a tree, of these places and leaves. -/
def Shape (m : M) (t : Int) (al lv : List Int) : Prop := (t = -1 ∧ al = [] ∧ lv = []) ∨ ∃ s : Tr, Rep m (-1) s ∧ Fit m s ∧ s.Bal ∧ t = s.ix ∧ s.all.Perm al ∧ s.lv.Perm lv
/-- A tree in memory that hangs right: its places, its leaves, its free places. -/
structure TSm (w : World) (T : Tn) (m0 : M) (F al lv : List Int) (b c : Nat) (pl : Int → Option Int) (K : Nat) : Prop where
  tx : TX w T F b c pl
  sh : Shape m0 T.top al lv
  nd : (al ++ F).Nodup
  rng : ∀ i ∈ al ++ F, 0 ≤ i ∧ i < T.N
  n1 : T.N ≤ K
  n2 : F.length ≤ K
  n3 : al.length ≤ K
abbrev TS (w : World) (T : Tn) (F al lv : List Int) (b c : Nat) (pl : Int → Option Int) (K : Nat) : Prop := TSm w T T.m F al lv b c pl K
/-- What a call leaves of a tree: the leaves' entries are as they were. -/
structure Aft (w w' : World) (T T' : Tn) (b : Nat) (L : List Int) : Prop where
  p : T'.p = T.p
  mg : T'.mg = T.mg
  ent : ∀ i ∈ L, (T'.m i).n = (T.m i).n ∧ (T'.m i).b = (T.m i).b ∧ (T'.m i).fat = (T.m i).fat
  fr : Fr w w' (own T b)
  ow : ∀ k, own T' b k → own T b k ∨ w.heap.size ≤ k
/-- Where the way down stands. -/
structure At (T : Tn) (al lv : List Int) (c : Cx) (s : Tr) : Prop where
  foc : Foc T.m c s
  root : T.top = c.root s.ix
  all : (s.all ++ c.all).Perm al
  lv : (s.lv ++ c.lv).Perm lv
def PA (T : Tn) (al lv : List Int) (i : Value) (n : Nat) : Prop := ∃ c s, i = .int .i64 s.ix ∧ At T al lv c s ∧ s.all.length = n
set_option maxRecDepth 100000 in
set_option maxHeartbeats 4000000 in
theorem hangTop {T : Tn} {F : List Int} {b c K a : Nat} {pl : Int → Option Int} (w : World) (h : TS w T F [] [] b c pl K) (ht : T.top = -1) (ha : a < T.N) (haF : (a : Int) ∉ F) (hl : (T.m a).u = -1 ∧ 1 ≤ (T.m a).n ∧ (T.m a).h = 0 ∧ holds (T.m a).fat (T.m a).b = true) :
    Calls Try.prog 40 #[.pointer (some ⟨T.p, 0, none⟩), .int .i64 (a : Int)] w fun e w' => e = .returned (.tuple #[]) ∧ ∃ T' F' al', TS w' T' F' al' [(a : Int)] b c pl (K + 2) ∧ Aft w w' T T' b [(a : Int)] := by
  have hT : TN w T := by
    rcases h.tx.to with ⟨h0, _⟩ | h
    · omega
    · exact h
  have c4 := h.tx.to.topc
  rw [ht] at c4
  have W1 : Below w.heap.size w (w.alloc (.cells [.pointer (some ⟨T.p, 0, none⟩)].toArray 23)) := (Below.refl _ _).alloc (Nat.le_refl _) _
  have W2 : Below w.heap.size w ((w.alloc (.cells [.pointer (some ⟨T.p, 0, none⟩)].toArray 23)).alloc (.cells [.int .i64 (a : Int)].toArray 3)) := W1.alloc (by simp) _
  have B1 : Box ((w.alloc (.cells [.pointer (some ⟨T.p, 0, none⟩)].toArray 23)).alloc (.cells [.int .i64 (a : Int)].toArray 3)) w.heap.size [.pointer (some ⟨T.p, 0, none⟩)] 23 := (Box.new rfl).alloc _
  have B2 : Box ((w.alloc (.cells [.pointer (some ⟨T.p, 0, none⟩)].toArray 23)).alloc (.cells [.int .i64 (a : Int)].toArray 3)) (w.alloc (.cells [.pointer (some ⟨T.p, 0, none⟩)].toArray 23)).heap.size [.int .i64 (a : Int)] 3 := Box.new rfl
  have hT2 := hT.step W2
  have HS := Lib.hid h; have HL := Lib.hid hl
  clear h hT hl c4
  go_enter Try.func40, Try.ntmps40
  iterate 3 go_step
  refine wpL_go (v := .pointer (some ⟨w.heap.size, 0, none⟩)) (w' := w.alloc (.cells [.pointer (some ⟨T.p, 0, none⟩)].toArray 23)) (by kernel_rfl) (by go_simp) ?_
  conv => arg 5; simp only [Act.put, List.setIfInBounds_toArray, List.set_cons_zero, List.set_cons_succ]
  refine wpL_go (v := .pointer (some ⟨(w.alloc (.cells [.pointer (some ⟨T.p, 0, none⟩)].toArray 23)).heap.size, 0, none⟩)) (w' := (w.alloc (.cells [.pointer (some ⟨T.p, 0, none⟩)].toArray 23)).alloc (.cells [.int .i64 (a : Int)].toArray 3)) (by kernel_rfl) (by go_simp) ?_
  conv => arg 5; simp only [Act.put, List.setIfInBounds_toArray, List.set_cons_zero, List.set_cons_succ]
  refine wpList_nil ?_
  revert W2 B1 B2 hT2
  generalize (w.alloc (.cells [.pointer (some ⟨T.p, 0, none⟩)].toArray 23)).heap.size = gb
  generalize (w.alloc (.cells [.pointer (some ⟨T.p, 0, none⟩)].toArray 23)).alloc (.cells [.int .i64 (a : Int)].toArray 3) = w1
  intro W2 B1 B2 hT2
  have HT := Lib.hid hT2
  have c4 : w1.cell? ⟨T.p, 4, none⟩ = some (.int .i64 (-1)) := by have := (TO.topc (.inr hT2)); rw [ht] at this; exact this
  have c5 := B1.cell 0
  have c6 := B2.cell 0
  simp only [List.getElem?_cons_zero] at c5 c6
  have l4 := hT2.box.lt
  have l5 := B1.lt
  have l6 := B2.lt
  have u1 : ((-1 : Int) == -1) = true := by decide
  clear hT2 B1 B2 W1
  go_wp2_with (refine wpL_tf (T := T) (x := .tmp 17) (y := .tmp 15) (n := (a : Int)) (by rfl) (by rfl) (by rfl) (by rfl) HT.out ?_; intro w2 h2 m2)
  simp only [Act.put]
  refine bodyPost_ret (v := .tuple #[]) (by simp [results, Try.results40, go_sem]) rfl ?_
  have hx := HS.out.tx.step W2
  have hx2 := hx.moved (m := T.m) (t := (a : Int)) h2 m2
  have L := HL.out
  refine ⟨rfl, { T with top := (a : Int) }, F, [(a : Int)], ⟨hx2, .inr ⟨.leaf a, ⟨L.1, L.2.1⟩, L.2.2, trivial, rfl, List.Perm.refl _, List.Perm.refl _⟩, ?_, fun i hi => ?_, ?_, ?_, ?_⟩, rfl, rfl, fun i hi => ⟨rfl, rfl, rfl⟩, ?_, fun k hk => .inl hk⟩
  · exact List.nodup_cons.2 ⟨haF, by simpa using HS.out.nd⟩
  · rcases List.mem_cons.1 hi with e | hi
    · subst e; show 0 ≤ (a : Int) ∧ (a : Int) < T.N; omega
    · exact HS.out.rng i hi
  · have := HS.out.n1; show T.N ≤ K + 2; omega
  · have := HS.out.n2; omega
  · show 1 ≤ K + 2; omega
  · exact (Fr.of_below (S := own T b) W2).trans (Fr.of_mod (S := own T b) m2 (.inl rfl) (.inr (.inl rfl))) (fun j h => .inl h)
theorem PA.ex {T : Tn} {al lv : List Int} {i : Value} {n : Nat} (h : PA T al lv i n) : ∃ c s, i = .int .i64 s.ix ∧ At T al lv c s ∧ s.all.length = TrG.least (PA T al lv i) := (TrG.least_ok h).1
theorem PA.le {T : Tn} {al lv : List Int} {c : Cx} {s : Tr} (h : At T al lv c s) : TrG.least (PA T al lv (.int .i64 s.ix)) ≤ s.all.length := (TrG.least_ok (P := PA T al lv (.int .i64 s.ix)) (n := s.all.length) ⟨c, s, rfl, h, rfl⟩).2 _ ⟨c, s, rfl, h, rfl⟩
theorem At.left {T : Tn} {al lv : List Int} {c : Cx} {i : Int} {l r : Tr} (h : At T al lv c (.node i l r)) : At T al lv (.inl i c r) l := ⟨h.foc.left, h.root, (perm_left i c l r).trans h.all, (plv_left i c l r).trans h.lv⟩
theorem At.right {T : Tn} {al lv : List Int} {c : Cx} {i : Int} {l r : Tr} (h : At T al lv c (.node i l r)) : At T al lv (.inr i l c) r := ⟨h.foc.right, h.root, (perm_right i c l r).trans h.all, (plv_right i c l r).trans h.lv⟩
theorem rep_n {m : M} : ∀ {t : Tr} {u : Int}, Rep m u t → ∀ i ∈ t.lv, 1 ≤ (m i).n
  | .leaf i, u, h, k, hk => by obtain rfl := List.mem_singleton.1 hk; exact h.2
  | .node i l r, u, h, k, hk => by
    rcases List.mem_append.1 hk with hk | hk
    · exact rep_n h.2.2.2.2.1 k hk
    · exact rep_n h.2.2.2.2.2 k hk
theorem nd_hang {al F F2 ca : List Int} {a bo bs : Int} (hal : (bs :: ca).Perm al) (hnd : (al ++ F).Nodup) (ha : a ∉ al) (haF : a ∉ F) (hbo : bo ∉ al) (hba : bo ≠ a) (hF : F = F2 ++ [bo] ∨ F = [] ∧ F2 = []) : ((bo :: bs :: a :: ca) ++ F2).Nodup := by
  have p : ((bo :: bs :: a :: ca) ++ F2).Perm (bo :: a :: (al ++ F2)) := by
    refine List.Perm.cons bo ?_
    refine (List.Perm.swap a bs (ca ++ F2)).trans (List.Perm.cons a ?_)
    exact List.Perm.append_right F2 hal
  rw [p.nodup_iff]
  obtain ⟨n1, n2, n3⟩ := List.nodup_append.1 hnd
  rcases hF with rfl | ⟨rfl, rfl⟩
  · obtain ⟨m1, m2, m3⟩ := List.nodup_append.1 n2
    refine List.nodup_cons.2 ⟨fun h => ?_, List.nodup_cons.2 ⟨fun h => ?_, List.nodup_append.2 ⟨n1, m1, fun x hx y hy => n3 x hx y (List.mem_append_left _ hy)⟩⟩⟩
    · rcases List.mem_cons.1 h with h | h
      · exact hba h
      · rcases List.mem_append.1 h with h | h
        · exact hbo h
        · exact m3 bo h bo (List.mem_singleton.2 rfl) rfl
    · rcases List.mem_append.1 h with h | h
      · exact ha h
      · exact haF (List.mem_append_left _ h)
  · rw [List.append_nil]
    refine List.nodup_cons.2 ⟨fun h => ?_, List.nodup_cons.2 ⟨ha, n1⟩⟩
    rcases List.mem_cons.1 h with h | h
    · exact hba h
    · exact hbo h
/-- A fresh place is nowhere yet. -/
theorem fresh_out {al F F2 : List Int} {N N2 bo : Nat} (hnd : (al ++ F).Nodup) (hr : ∀ i ∈ al ++ F, 0 ≤ i ∧ i < N) (hF : F = F2 ++ [(bo : Int)] ∧ N2 = N ∨ F = [] ∧ F2 = [] ∧ bo = N ∧ N2 = N + 1) : (bo : Int) ∉ al ∧ (∀ a : Nat, a < N → (a : Int) ∉ F → (bo : Int) ≠ a) ∧ N ≤ N2 ∧ N2 ≤ N + 1 := by
  rcases hF with ⟨rfl, rfl⟩ | ⟨rfl, rfl, rfl, rfl⟩
  · obtain ⟨n1, n2, n3⟩ := List.nodup_append.1 hnd
    refine ⟨fun h => n3 _ h _ (List.mem_append_right _ (List.mem_singleton.2 rfl)) rfl, fun a _ h e => h (List.mem_append_right _ (by rw [e]; exact List.mem_singleton.2 rfl)), Nat.le_refl _, by omega⟩
  · refine ⟨fun h => ?_, fun a ha _ e => by omega, by omega, Nat.le_refl _⟩
    have := (hr _ (List.mem_append_left _ h)).2
    omega
set_option maxRecDepth 100000 in
set_option maxHeartbeats 4000000 in
theorem hangOn {T : Tn} {F al lv : List Int} {b c K a : Nat} {pl : Int → Option Int} {s0 : Tr} (w : World) (h : TS w T F al lv b c pl K) (hK : K < 90000) (hA0 : At T al lv .top s0) (ha : a < T.N) (haF : (a : Int) ∉ F) (haL : (a : Int) ∉ al) (hl : 1 ≤ (T.m a).n ∧ (T.m a).h = 0 ∧ holds (T.m a).fat (T.m a).b = true) :
    Calls Try.prog 40 #[.pointer (some ⟨T.p, 0, none⟩), .int .i64 (a : Int)] w fun e w' => e = .returned (.tuple #[]) ∧ ∃ T' F' al', TS w' T' F' al' ((a : Int) :: lv) b c pl (K + 2) ∧ Aft w w' T T' b ((a : Int) :: lv) := by
  have hT : TN w T := by
    rcases h.tx.to with ⟨h0, _⟩ | h
    · omega
    · exact h
  obtain ⟨t0, ht0⟩ : ∃ t0, s0.ix = t0 := ⟨_, rfl⟩
  have ht : T.top = t0 := hA0.root.trans ht0
  have ht1 : t0 ≠ -1 := by
    have := hA0.foc.ap.pos _ s0.ix_all
    omega
  have HT0 := Lib.hid ht0
  have W1 : Below w.heap.size w (w.alloc (.cells [.pointer (some ⟨T.p, 0, none⟩)].toArray 23)) := (Below.refl _ _).alloc (Nat.le_refl _) _
  have W2 : Below w.heap.size w ((w.alloc (.cells [.pointer (some ⟨T.p, 0, none⟩)].toArray 23)).alloc (.cells [.int .i64 (a : Int)].toArray 3)) := W1.alloc (by simp) _
  have B1 : Box ((w.alloc (.cells [.pointer (some ⟨T.p, 0, none⟩)].toArray 23)).alloc (.cells [.int .i64 (a : Int)].toArray 3)) w.heap.size [.pointer (some ⟨T.p, 0, none⟩)] 23 := (Box.new rfl).alloc _
  have B2 : Box ((w.alloc (.cells [.pointer (some ⟨T.p, 0, none⟩)].toArray 23)).alloc (.cells [.int .i64 (a : Int)].toArray 3)) (w.alloc (.cells [.pointer (some ⟨T.p, 0, none⟩)].toArray 23)).heap.size [.int .i64 (a : Int)] 3 := Box.new rfl
  have hX2 := h.tx.step W2
  have hT2 := hT.step W2
  have hgl : w.heap.size ≤ (w.alloc (.cells [.pointer (some ⟨T.p, 0, none⟩)].toArray 23)).heap.size := W1.size
  have HS := Lib.hid h; have HL := Lib.hid hl; have HA := Lib.hid hA0
  clear h hT hl hA0 ht0
  go_enter Try.func40, Try.ntmps40
  iterate 3 go_step
  refine wpL_go (v := .pointer (some ⟨w.heap.size, 0, none⟩)) (w' := w.alloc (.cells [.pointer (some ⟨T.p, 0, none⟩)].toArray 23)) (by kernel_rfl) (by go_simp) ?_
  conv => arg 5; simp only [Act.put, List.setIfInBounds_toArray, List.set_cons_zero, List.set_cons_succ]
  refine wpL_go (v := .pointer (some ⟨(w.alloc (.cells [.pointer (some ⟨T.p, 0, none⟩)].toArray 23)).heap.size, 0, none⟩)) (w' := (w.alloc (.cells [.pointer (some ⟨T.p, 0, none⟩)].toArray 23)).alloc (.cells [.int .i64 (a : Int)].toArray 3)) (by kernel_rfl) (by go_simp) ?_
  conv => arg 5; simp only [Act.put, List.setIfInBounds_toArray, List.set_cons_zero, List.set_cons_succ]
  refine wpList_nil ?_
  revert W2 B1 B2 hT2 hX2 hgl
  generalize (w.alloc (.cells [.pointer (some ⟨T.p, 0, none⟩)].toArray 23)).heap.size = gb
  generalize (w.alloc (.cells [.pointer (some ⟨T.p, 0, none⟩)].toArray 23)).alloc (.cells [.int .i64 (a : Int)].toArray 3) = w1
  obtain ⟨ga, hga⟩ : ∃ ga, w.heap.size = ga := ⟨_, rfl⟩
  intro W2 B1 B2 hX2 hT2 hgl
  rw [hga] at B1
  rw [hga]
  have HT := Lib.hid hT2; have HX := Lib.hid hX2; have HB1 := Lib.hid B1; have HB2 := Lib.hid B2; have HW := Lib.hid W2
  have c4 : w1.cell? ⟨T.p, 4, none⟩ = some (.int .i64 t0) := by have := (TO.topc (.inr hT2)); rw [ht] at this; exact this
  have c5 := B1.cell 0
  have c6 := B2.cell 0
  simp only [List.getElem?_cons_zero] at c5 c6
  have l4 := hT2.box.lt
  have l5 := B1.lt
  have l6 := B2.lt
  have u1 : (t0 == -1) = false := by simpa using ht1
  have HBX := Lib.hid (fun (u : World) (hf : Fr w1 u (own T b)) => (show Box u ga [.pointer (some ⟨T.p, 0, none⟩)] 23 ∧ Box u gb [.int .i64 (a : Int)] 3 from
    ⟨Box.block B1 (hf.block ga l5 fun h => by have := HS.out.tx.lt _ h; omega), Box.block B2 (hf.block gb l6 fun h => by have := HS.out.tx.lt _ h; omega)⟩))
  clear hT2 B1 B2 W1 W2 hX2
  go_wp2_with fail
  clear c4 c5 c6 l4 l5 l6 u1
  go_loopw [4] (fun i wr => (∃ n, PA T al lv i n) ∧ Below w1.heap.size w1 wr) (fun i wr => TrG.least (PA T al lv i))
  case atStart => exact ⟨⟨_, .top, s0, by rw [HT0.out], HA.out, rfl⟩, Below.refl _ _⟩
  case round =>
    obtain ⟨⟨n0, hp⟩, hS⟩ := hrel
    obtain ⟨cx, s, rfl, hA, hlen⟩ := hp.ex
    have HLEN := Lib.hid hlen
    clear hp hlen
    have hTr := HT.out.step hS
    have hB1 := HB1.out.step hS
    have hB2 := HB2.out.step hS
    have c2 := hTr.nodes
    have c5 := hB1.cell 0
    have c6 := hB2.cell 0
    simp only [List.getElem?_cons_zero] at c5 c6
    have l4 := hTr.box.lt
    have l5 := hB1.lt
    have l6 := hB2.lt
    have HTr := Lib.hid hTr; have HBr1 := Lib.hid hB1; have HBr2 := Lib.hid hB2; have HAr := Lib.hid hA; have HSr := Lib.hid hS
    clear hB1 hB2
    cases s with
    | leaf bs =>
      have hb0 := HS.out.rng bs (List.mem_append_left _ (hA.all.mem_iff.1 (List.mem_append_left _ (List.mem_singleton.2 rfl))))
      obtain ⟨bs, rfl⟩ : ∃ n : Nat, bs = n := ⟨bs.toNat, by omega⟩
      have hbN : bs < T.N := by omega
      have cn := hTr.cell hbN (j := 12) rfl
      have cu := hTr.cell hbN (j := 13) rfl
      have hu : (T.m bs).u = cx.up := hA.foc.rep.1
      rw [hu] at cu
      have un : ((T.m bs).n == 0) = false := by have : 1 ≤ (T.m bs).n := hA.foc.rep.2; simp only [beq_eq_false_iff_ne, ne_eq]; omega
      simp only [TrP.Tr.ix]
      clear hTr hA hS
      have hX := HX.out.step HSr.out
      go_wp2_with fail
      obtain ⟨x, hx⟩ : ∃ x : Nd, (⟨bzero, bzero, 0, cx.up, (bs : Int), (a : Int), 0⟩ : Nd) = x := ⟨_, rfl⟩
      have hFS := freshC (x := x) wr hX (fun k hk => HS.out.rng k (List.mem_append_right _ hk)) (by have := HS.out.n2; omega) (fun _ => by have := HS.out.n1; omega)
      rw [← hx] at hFS
      refine hFS.mono ?_
      clear hFS
      rw [hx]
      rintro e w2 ⟨bo, T2, F2, rfl, hF⟩
      have hpT := hF.p
      have fo := fresh_out HS.out.nd HS.out.rng hF.how
      have HAo := HAr.out
      have bsA : (bs : Int) ∈ al := HAo.all.mem_iff.1 (List.mem_append_left _ (List.mem_singleton.2 rfl))
      have cxA : ∀ k ∈ cx.all, k ∈ al := fun k hk => HAo.all.mem_iff.1 (List.mem_append_right _ hk)
      have cxR : cx.up = -1 ∨ 0 ≤ cx.up ∧ cx.up < T2.N := by
        rcases up_in (c := cx) with h | h
        · exact .inl h
        · have := HS.out.rng _ (List.mem_append_left _ (cxA _ h)); right; omega
      obtain ⟨m2, m4, ec, e4, hMI⟩ := hang_ok (m := T.m) (at_ := (a : Int)) (bo := (bo : Int)) (x := x) HAo.foc ⟨fun e => haL (by rw [e]; exact bsA), fun h => haL (cxA _ h), by omega⟩ ⟨fun e => fo.1 (by rw [e]; exact bsA), fo.2.1 a ha haF, fun h => fo.1 (cxA _ h), by omega⟩ (by rw [← hx]; exact ⟨rfl, rfl, rfl, rfl⟩) HL.out
      have hbo := hF.lt
      have M2 := hF.tn
      have F1 : Fr w1 w2 (own T b) := (Fr.of_below (S := own T b) HSr.out).trans hF.fr (fun j h => .inl h)
      have OW := Lib.hid (show ∀ j, own T2 b j → own T b j ∨ w1.heap.size ≤ j from fun j h => (hF.ow j h).imp id (fun h => by have := HSr.out.size; omega))
      have HFS := Lib.hid hF
      have HC := Lib.hid (show change T2.m T2.top cx.up (bs : Int) (bo : Int) = (m2, cx.root bo) by rw [hF.m, hF.top, HAo.root]; exact ec)
      have HM := Lib.hid hMI; have H4 := Lib.hid e4; have HFO := Lib.hid fo; have HCX := Lib.hid cxR; have HBS := Lib.hid bsA; have HCA := Lib.hid cxA
      have hMo2 := Mod.refl w2 T2.p T2.g
      clear c2 c5 c6 l4 l5 l6 cn cu un hX fo HAo bsA cxA cxR hMI e4 ec hx hF HTr HBr1 HBr2 HSr HX HT HB1 HB2 hb0 hu
      obtain ⟨c5, c6⟩ := HBX.out w2 F1
      have c5 := c5.cell 0
      have c6 := c6.cell 0
      simp only [List.getElem?_cons_zero] at c5 c6
      go_wp2_with fail
      have hCH := changeC (T := T2) (up := cx.up) (was := (bs : Int)) (now := (bo : Int)) w2 M2 HCX.out ⟨by omega, by omega⟩
      rw [HC.out] at hCH
      have hCH2 : Calls Try.prog 50 #[.pointer (some ⟨T.p, 0, none⟩), .int .i64 cx.up, .int .i64 (bs : Int), .int .i64 (bo : Int)] w2 fun e w' => e = .returned (.tuple #[]) ∧ TN w' { T2 with m := m2, top := cx.root bo } ∧ Mod w2 w' T2.p T2.g := by rw [← hpT]; exact hCH
      refine hCH2.mono ?_
      clear hCH hCH2
      rintro e w3 ⟨rfl, h3, m3⟩
      have F3 : Fr w1 w3 (own T b) := F1.trans (Fr.of_mod (S := own T2 b) m3 (.inl rfl) (.inr (.inl rfl))) OW.out
      clear c5 c6 M2 hMo2
      obtain ⟨hp2, hg2⟩ := TN.lt h3
      have hp2 : T.p < w3.heap.size := by rw [← hpT]; exact hp2
      have hg2 : T2.g < w3.heap.size := hg2
      have HFr := Lib.hid F3
      have H3 := Lib.hid h3
      have NE := Lib.hid (fun (u : World) (hS : Below w3.heap.size w3 u ∨ (TN u { T2 with m := st m2 bs ((m2 bs).setU bo), top := cx.root bo } ∧ Mod w3 u T2.p T2.g)) => (show u.cell? ⟨T.p, 2, none⟩ = some (.slice (some ⟨T2.g, 0, none⟩) T2.N T2.cap) ∧ u.cell? ⟨ga, 0, none⟩ = some (.pointer (some ⟨T.p, 0, none⟩)) ∧ u.cell? ⟨gb, 0, none⟩ = some (.int .i64 (a : Int)) from by
        have hc : u.cell? ⟨T.p, 2, none⟩ = some (.slice (some ⟨T2.g, 0, none⟩) T2.N T2.cap) := by
          rw [← hpT]
          rcases hS with h | h
          · exact (H3.out.step h).nodes
          · exact h.1.nodes
        have hf : Fr w1 u (own T b) := by
          rcases hS with h | h
          · exact HFr.out.trans (Fr.of_below (S := own T b) h) (fun j h => .inl h)
          · exact HFr.out.trans (Fr.of_mod (S := own T2 b) h.2 (.inl rfl) (.inr (.inl rfl))) OW.out
        obtain ⟨q5, q6⟩ := HBX.out u hf
        exact ⟨hc, by rw [q5.cell]; rfl, by rw [q6.cell]; rfl⟩))
      have bsN : bs < T2.N := by have := HFO.out; omega
      have aN : a < T2.N := by have := HFO.out; omega
      have bs0 : 0 ≤ (bs : Int) ∧ (bs : Int) < T2.N := by omega
      have a0 : 0 ≤ (a : Int) ∧ (a : Int) < T2.N := by omega
      clear h3 F3
      go_wp2_with fail
      refine wp_region_ph [(15, .free [])] (by kernel_rfl) (by kernel_rfl) ?_
      refine Ph.one 14 (fun u => Below w3.heap.size w3 u) (fun u => TN u { T2 with m := st m2 bs ((m2 bs).setU bo), top := cx.root bo } ∧ Mod w3 u T2.p T2.g) (by rfl) (Below.refl _ _).drew ?_
      simp only [List.drop_succ_cons, List.drop_zero, List.take_succ_cons, List.take_zero, Nat.reduceSub, Nat.sub_zero]
      iterate 14 (refine SeqO.val1 (v := ?_) (by rfl) (by rfl) (fun w1 hS => ?_) ?_; rotate_left; (· obtain ⟨c2, c5, c6⟩ := NE.out w1 hS; go_simp; try with_reducible rfl); simp only [Act.put, List.setIfInBounds_toArray, List.set_cons_zero, List.set_cons_succ])
      refine SeqO.one (v := undef) (by rfl) (by rfl) (fun u hR K hK => ?_) ?_
      · refine wp_nf (T := { T2 with m := m2, top := cx.root bo }) (k := bs) (j := 13) (x := .tmp 84) (y := .tmp 81) (n := (bo : Int)) (z := (m2 bs).setU bo) (by rfl) (by rfl) (by rfl) (H3.out.step hR) bsN (by decide) (by rfl) ?_
        exact fun w' h' m' => hK w' ⟨h', (Mod.of_below hR).trans m'⟩
      simp only [Act.put, List.setIfInBounds_toArray, List.set_cons_zero, List.set_cons_succ]
      refine SeqO.nil1 (by decide) fun w4 hR2 => ?_
      refine Ph.last ?_
      simp only [List.drop_succ_cons, List.drop_zero, List.take_succ_cons, List.take_zero, Nat.reduceSub, Nat.sub_zero]
      obtain ⟨h4, m4'⟩ := hR2
      have M4 := m3.trans m4'
      iterate 2 (with_reducible refine wpL_val (v := ?_) ?_ ?_ ?_; rotate_left; (· kernel_rfl); (· go_simp; try with_reducible rfl); conv => arg 5; simp only [Act.put, List.setIfInBounds_toArray, List.set_cons_zero, List.set_cons_succ])
      refine wpL_nf (T := { T2 with m := st m2 bs ((m2 bs).setU bo), top := cx.root bo }) (k := a) (j := 13) (x := .tmp 86) (y := .tmp 82) (n := (bo : Int)) (z := ((st m2 bs ((m2 bs).setU bo)) a).setU bo) (by rfl) (by rfl) (by rfl) (by rfl) h4 aN (by decide) (by rfl) ?_
      intro w5 h5 m5
      have M5 := M4.trans m5
      replace h5 : TN w5 { T2 with m := m4, top := cx.root bo } := by rw [← H4.out]; exact h5
      refine wpList_nil ?_
      have F5 : Fr w1 w5 (own T b) := (HFr.out.trans (Fr.of_mod (S := own T2 b) m4' (.inl rfl) (.inr (.inl rfl))) OW.out).trans (Fr.of_mod (S := own T2 b) m5 (.inl rfl) (.inr (.inl rfl))) OW.out
      obtain ⟨q5, q6⟩ := HBX.out w5 F5
      have c5 : w5.cell? ⟨ga, 0, none⟩ = some (.pointer (some ⟨T.p, 0, none⟩)) := by rw [q5.cell]; rfl
      clear q5 q6 h4 m4' M4 NE H3 HFr m5 hp2 hg2
      go_wp2_with fail
      have hIn : In ((bo : Int) :: (bs : Int) :: (a : Int) :: cx.all) T2.N := by
        have hN := HFO.out
        refine ⟨fun i hi => ?_, ?_⟩
        · rcases List.mem_cons.1 hi with e | hi
          · omega
          rcases List.mem_cons.1 hi with e | hi
          · omega
          rcases List.mem_cons.1 hi with e | hi
          · omega
          have := HS.out.rng i (List.mem_append_left _ (HCA.out i hi)); omega
        · have h1 := HAr.out.all.length_eq
          have h2 := HS.out.n3
          simp only [TrP.Tr.all, List.length_append, List.length_singleton, List.length_cons] at h1 ⊢
          omega
      have hMD := mendC (T := { T2 with m := m4, top := cx.root bo }) w5 h5 HM.out hIn
      have hMD2 : Calls Try.prog 51 #[.pointer (some ⟨T.p, 0, none⟩), .int .i64 (bo : Int)] w5 fun e w' => e = .returned (.tuple #[]) ∧ ∃ m t k, TN w' { T2 with m := m, top := t } ∧ MI (st T.m bo x) m t (-1) k ((bo : Int) :: (bs : Int) :: (a : Int) :: cx.all) ((bs : Int) :: (a : Int) :: cx.lv) ∧ Mod w5 w' T2.p T2.g := by rw [← hpT]; exact hMD
      refine hMD2.mono ?_
      clear hMD hMD2
      rintro e w6 ⟨rfl, m6, t6, k6, h6, hI6, M6⟩
      obtain ⟨hKt, T6, hW⟩ := hI6.end_
      have FIN := Lib.hid (show ∃ T' F' al', TS w6 T' F' al' ((a : Int) :: lv) b c pl (K + 2) ∧ Aft w w6 T T' b ((a : Int) :: lv) from by
        have hF := HFS.out
        have fo := HFO.out
        have hA := HAr.out
        have hx := hF.tx.moved (m := m6) (t := t6) h6 (M5.trans M6)
        refine ⟨{ T2 with m := m6, top := t6 }, F2, (bo : Int) :: (bs : Int) :: (a : Int) :: cx.all, ⟨hx, .inr ⟨T6, hW.rep, hW.fit, hW.bal, hW.top_is, hW.all, ?_⟩, ?_, ?_, ?_, ?_, ?_⟩, hF.p, hF.mg, ?_, ?_, ?_⟩
        · exact hW.lv.trans ((List.Perm.swap _ _ _).trans (List.Perm.cons _ hA.lv))
        · exact nd_hang hA.all HS.out.nd haL haF fo.1 (fo.2.1 a ha haF) (hF.how.imp (·.1) (fun h => ⟨h.1, h.2.1⟩))
        · intro i hi
          rcases List.mem_append.1 hi with hi | hi
          · exact hIn.mem i hi
          · have : i ∈ F := by
              rcases hF.how with h | h
              · rw [h.1]; exact List.mem_append_left _ hi
              · rw [h.2.1] at hi; cases hi
            have := HS.out.rng i (List.mem_append_right _ this)
            show 0 ≤ i ∧ i < (T2.N : Int); omega
        · have := HS.out.n1; show T2.N ≤ K + 2; omega
        · have := HS.out.n2
          rcases hF.how with h | h
          · rw [h.1, List.length_append] at this; simp at this; omega
          · rw [h.2.1]; simp
        · have h1 := hA.all.length_eq
          have h2 := HS.out.n3
          simp only [TrP.Tr.all, List.length_append, List.length_singleton, List.length_cons] at h1 ⊢
          omega
        · intro i hi
          have hb : i ≠ bo ∧ (T.m i).n ≠ 0 := by
            rcases List.mem_cons.1 hi with e | hi
            · subst e
              exact ⟨fun e => fo.2.1 a ha haF e.symm, by have := HL.out.1; omega⟩
            · have hs0 := HA.out
              have hl0 : i ∈ s0.lv := by
                have := hs0.lv.mem_iff.2 hi
                rcases List.mem_append.1 this with h | h
                · exact h
                · cases h
              have h1 := rep_n hs0.foc.rep i hl0
              refine ⟨fun e => fo.1 ?_, by omega⟩
              rw [← e]
              exact hs0.all.mem_iff.1 (List.mem_append_left _ (s0.lv_all i hl0))
          have := hKt.same i
          rw [st_ne hb.1] at this
          exact ⟨this.2.1, this.1, this.2.2 hb.2⟩
        · refine (Fr.trans (S' := own T b) (Fr.of_below (S := own T b) HW.out) (F5.trans (Fr.of_mod (S := own T2 b) M6 (.inl rfl) (.inr (.inl rfl))) OW.out) (fun j h => .inl h))
        · intro k hk
          have hk' : own T2 b k := hk
          rcases OW.out k hk' with h | h
          · exact .inl h
          · right; have := HW.out.size; omega)
      clear h6 M6 hI6 hKt hW hIn M5 h5 HM HC H4
      go_wp2_with fail
      go_end0
      exact ⟨rfl, FIN.out⟩
    | node j l r =>
      have hb0 := HS.out.rng j (List.mem_append_left _ (hA.all.mem_iff.1 (List.mem_append_left _ (List.mem_cons_self ..))))
      obtain ⟨j, rfl⟩ : ∃ n : Nat, j = n := ⟨j.toNat, by omega⟩
      have hbN : j < T.N := by omega
      have cn := hTr.cell hbN (j := 12) rfl
      have un : ((T.m j).n == 0) = true := by have : (T.m j).n = 0 := hA.foc.rep.2.1; simp [this]
      simp only [TrP.Tr.ix]
      have hat : At' wr T.g (j * 17) (ndv (T.m j)) := TN.at hTr hbN
      have lA := HS.out.rng l.ix (List.mem_append_left _ (hA.all.mem_iff.1 (List.mem_append_left _ (List.mem_cons_of_mem _ (List.mem_append_left _ l.ix_all)))))
      have rA := HS.out.rng r.ix (List.mem_append_left _ (hA.all.mem_iff.1 (List.mem_append_left _ (List.mem_cons_of_mem _ (List.mem_append_right _ r.ix_all)))))
      obtain ⟨lk, hlk⟩ : ∃ n : Nat, l.ix = n := ⟨l.ix.toNat, by omega⟩
      obtain ⟨rk, hrk⟩ : ∃ n : Nat, r.ix = n := ⟨r.ix.toNat, by omega⟩
      have hl1 : (T.m j).l = lk := by rw [← hlk]; exact hA.foc.rep.2.2.1
      have hr1 : (T.m j).r = rk := by rw [← hrk]; exact hA.foc.rep.2.2.2.1
      have lkN : lk < T.N := by omega
      have rkN : rk < T.N := by omega
      have BN : Box (wr.alloc (.cells (ndv (T.m j)).toArray 71)) wr.heap.size (ndv (T.m j)) 71 := Box.new rfl
      have hS2 : Below wr.heap.size wr (wr.alloc (.cells (ndv (T.m j)).toArray 71)) := (Below.refl _ _).alloc (Nat.le_refl _) _
      have c14 : (wr.alloc (.cells (ndv (T.m j)).toArray 71)).cell? ⟨wr.heap.size, 14, none⟩ = some (.int .i64 lk) := by rw [BN.cell, ← hl1]; rfl
      have l14 := BN.lt
      have FL := Lib.hid (fun (u : World) (hu : Below w1.heap.size w1 u) => (show ((∃ n, PA T al lv (.int .i64 (lk : Int)) n) ∧ Below w1.heap.size w1 u) ∧ TrG.least (PA T al lv (.int .i64 (lk : Int))) < TrG.least (PA T al lv (.int .i64 (j : Int))) from by
        rw [← hlk]
        refine ⟨⟨⟨_, _, l, rfl, hA.left, rfl⟩, hu⟩, Nat.lt_of_le_of_lt (PA.le hA.left) ?_⟩
        have := HLEN.out
        simp only [TrP.Tr.all, List.length_cons, List.length_append, TrP.Tr.ix] at this
        omega))
      have FR := Lib.hid (fun (u : World) (hu : Below w1.heap.size w1 u) => (show ((∃ n, PA T al lv (.int .i64 (rk : Int)) n) ∧ Below w1.heap.size w1 u) ∧ TrG.least (PA T al lv (.int .i64 (rk : Int))) < TrG.least (PA T al lv (.int .i64 (j : Int))) from by
        rw [← hrk]
        refine ⟨⟨⟨_, _, r, rfl, hA.right, rfl⟩, hu⟩, Nat.lt_of_le_of_lt (PA.le hA.right) ?_⟩
        have := HLEN.out
        simp only [TrP.Tr.all, List.length_cons, List.length_append, TrP.Tr.ix] at this
        omega))
      clear hTr hA hS lA rA hlk hrk HAr HLEN
      go_wp2_with (refine wpL_at (l := ndv (T.m j)) (by rfl) (by rfl) hat Try.underlying71 (by rfl) (szN _) (by kernel_rfl) ?_; (conv => arg 5; simp only [Act.put, List.setIfInBounds_toArray, List.set_cons_zero, List.set_cons_succ]); refine wpL_go (v := .pointer (some ⟨wr.heap.size, 0, none⟩)) (w' := wr.alloc (.cells [.int .i64 0, .int .i64 0, .int .i64 0, .int .i64 0, .int .i64 0, .int .i64 0, .int .i64 0, .int .i64 0, .int .i64 0, .int .i64 0, .int .i64 0, .int .i64 0, .int .i64 0, .int .i64 0, .int .i64 0, .int .i64 0, .int .i64 0].toArray 71)) (by kernel_rfl) (by go_simp) ?_; (conv => arg 5; simp only [Act.put, List.setIfInBounds_toArray, List.set_cons_zero, List.set_cons_succ]); refine wpL_store (cs := ndv (T.m j)) (by rfl) (by rfl) (by rfl) (Box.new rfl) (szN _) (by rfl) (nd_one _) (by kernel_rfl) ?_; (conv => arg 5; simp only [Act.put, List.setIfInBounds_toArray, List.set_cons_zero, List.set_cons_succ]); rw [alloc_setRow]; refine wpList_nil ?_)
      clear c14 l14 c2 c5 c6 l4 l5 l6 cn un hat
      have hT2 := HTr.out.step hS2
      have hB1 := HBr1.out.step hS2
      have hB2 := HBr2.out.step hS2
      have hSs := HSr.out.trans (hS2.mono HSr.out.size)
      obtain ⟨g0, hg0⟩ : ∃ g0, wr.heap.size = g0 := ⟨_, rfl⟩
      revert BN hT2 hB1 hB2 hSs
      rw [hg0]
      generalize wr.alloc (.cells (ndv (T.m j)).toArray 71) = w2
      intro BN hT2 hB1 hB2 hSs
      clear HTr HBr1 HBr2 HSr hg0 hS2
      have HT2 := Lib.hid hT2; have HC1 := Lib.hid hB1; have HC2 := Lib.hid hB2; have HN := Lib.hid BN; have HSs := Lib.hid hSs
      have c14 : w2.cell? ⟨g0, 14, none⟩ = some (.int .i64 lk) := by rw [BN.cell, ← hl1]; rfl
      have c15 : w2.cell? ⟨g0, 15, none⟩ = some (.int .i64 rk) := by rw [BN.cell, ← hr1]; rfl
      have l14 := BN.lt
      clear hT2 hB1 hB2 BN hSs
      refine wp_region_ph [(9, .free [])] (by kernel_rfl) (by kernel_rfl) ?_
      refine Ph.belowd ?_
      simp only [List.drop_succ_cons, List.drop_zero, List.take_succ_cons, List.take_zero, Nat.reduceSub, Nat.sub_zero]
      iterate 3 (refine SeqO.val (v := ?_) (by rfl) (by rfl) (fun w1 hS => ?_) ?_; rotate_left; (· obtain ⟨hc, hcf⟩ := bcell hS; go_simp; try with_reducible rfl); simp only [Act.put, List.setIfInBounds_toArray, List.set_cons_zero, List.set_cons_succ])
      refine SeqO.callv (by rfl) (by rfl) (by rfl) cf54 (by simp [Act.eval]) (fun w1 hS => moreC w1 (HT2.out.step hS) rkN ha (HC1.out.step hS) (HC2.out.step hS)) ?_
      simp only [Act.put, List.setIfInBounds_toArray, List.set_cons_zero, List.set_cons_succ]
      iterate 3 (refine SeqO.val (v := ?_) (by rfl) (by rfl) (fun w1 hS => ?_) ?_; rotate_left; (· obtain ⟨hc, hcf⟩ := bcell hS; go_simp; try with_reducible rfl); simp only [Act.put, List.setIfInBounds_toArray, List.set_cons_zero, List.set_cons_succ])
      refine SeqO.callv (by rfl) (by rfl) (by rfl) cf54 (by simp [Act.eval]) (fun w1 hS => moreC w1 (HT2.out.step hS) lkN ha (HC1.out.step hS) (HC2.out.step hS)) ?_
      simp only [Act.put, List.setIfInBounds_toArray, List.set_cons_zero, List.set_cons_succ]
      iterate 1 (refine SeqO.val (v := ?_) (by rfl) (by rfl) (fun w1 hS => ?_) ?_; rotate_left; (· obtain ⟨hc, hcf⟩ := bcell hS; go_simp; try with_reducible rfl); simp only [Act.put, List.setIfInBounds_toArray, List.set_cons_zero, List.set_cons_succ])
      refine SeqO.nil0 fun w3 hS3 => ?_
      refine Ph.last ?_
      simp only [List.drop_succ_cons, List.drop_zero, List.take_succ_cons, List.take_zero, Nat.reduceSub, Nat.sub_zero]
      have B3 := HN.out.step hS3
      have hS4 := HSs.out.trans (hS3.mono HSs.out.size)
      clear c14 c15 l14 HN HSs HT2 HC1 HC2
      have c15 : w3.cell? ⟨g0, 15, none⟩ = some (.int .i64 rk) := by rw [B3.cell, ← hr1]; rfl
      have l14 := B3.lt
      clear B3
      go_wp2_with fail
      · exact FR.out _ hS4
      · exact FL.out _ hS4
/-- A leaf hung, whatever hangs already. -/
theorem hangC {T : Tn} {F al lv : List Int} {b c K a : Nat} {pl : Int → Option Int} (w : World) (h : TS w T F al lv b c pl K) (hK : K < 90000) (ha : a < T.N) (haF : (a : Int) ∉ F) (haL : (a : Int) ∉ al) (hl : (T.m a).u = -1 ∧ 1 ≤ (T.m a).n ∧ (T.m a).h = 0 ∧ holds (T.m a).fat (T.m a).b = true) :
    Calls Try.prog 40 #[.pointer (some ⟨T.p, 0, none⟩), .int .i64 (a : Int)] w fun e w' => e = .returned (.tuple #[]) ∧ ∃ T' F' al', TS w' T' F' al' ((a : Int) :: lv) b c pl (K + 2) ∧ Aft w w' T T' b ((a : Int) :: lv) := by
  rcases h.sh with ⟨h1, rfl, rfl⟩ | ⟨s, h1, h2, h3, h4, h5, h6⟩
  · exact hangTop w h h1 ha haF hl
  · have nd : s.all.Nodup := h5.nodup_iff.2 (List.nodup_append.1 h.nd).1
    have ps : ∀ i ∈ s.all, 0 ≤ i := fun i hi => (h.rng i (List.mem_append_left _ (h5.mem_iff.1 hi))).1
    exact hangOn (s0 := s) w h hK ⟨Foc.start h1 h2 h3 nd ps, h4, by simpa [Cx.all] using h5, by simpa [Cx.lv] using h6⟩ ha haF haL hl.2
end THg
end Go.Proofs.Ytbcjnckejkjfeaa
namespace Go.Proofs.Ytbcjnckejkjfeaa
set_option linter.unusedVariables false
set_option linter.unusedSimpArgs false
open Go.RowKit Go.NP
namespace TCt
open TrP TrW TrC TrA TrF TrG TrX TrY TrK THg QVl
/-- A place appended to the free ones. -/
theorem TX.push {w w' : World} {T : Tn} {F : List Int} {b c : Nat} {pl : Int → Option Int} {v' : Value} {x : Int} (h : TX w T F b c pl) (hT : TN w T) (hv : OwnV w' 0 3 v' (iv F ++ [.int .i64 x])) (hg : w.grownBy w' T.fr.ownBlock) (ho : v'.ownBlock = T.fr.ownBlock ∨ v'.ownBlock = some w.heap.size) :
    TX (w'.setCell ⟨T.p, 3, none⟩ v') { T with fr := v' } (F ++ [x]) b c pl ∧ TN (w'.setCell ⟨T.p, 3, none⟩ v') { T with fr := v' } ∧ Fr w (w'.setCell ⟨T.p, 3, none⟩ v') (own T b) ∧ ∀ k, own { T with fr := v' } b k → own T b k ∨ w.heap.size ≤ k := by
  have hl := TN.lt hT
  have hp : w'.heap[T.p]? = w.heap[T.p]? := hg.block _ hl.1 fun e => (h.fp _ e.symm).1 rfl
  have hgg : w'.heap[T.g]? = w.heap[T.g]? := hg.block _ hl.2 fun e => (h.fp _ e.symm).2.1 rfl
  have hb : w'.heap[b]? = w.heap[b]? := hg.block _ h.vm.lt fun e => (h.fp _ e.symm).2.2 rfl
  have hN : TN w' T := by
    obtain ⟨L, q1, q2, q3⟩ := hT.row
    exact ⟨Box.block hT.box hp, ⟨L, Box.block q1 hgg, q2, q3⟩, hT.cap, hT.ne, hT.small⟩
  have hN2 := TN.setFr hN v'
  have hfp : ∀ k, v'.ownBlock = some k → k ≠ T.p ∧ k ≠ T.g ∧ k ≠ b := fun k hk => by
    rcases ho with e | e
    · exact h.fp k (by rw [← e]; exact hk)
    · rw [e] at hk
      cases hk
      exact ⟨by omega, by omega, by have := h.vm.lt; omega⟩
  have hiv : iv (F ++ [x]) = iv F ++ [.int .i64 x] := by simp [iv]
  refine ⟨⟨.inr hN2, ?_, h.mp, (h.vm.block hb).block (heap_setCell _ _ _ _ fun e => h.bp e), h.bp, h.bg, hfp, h.cl⟩, hN2, ?_, fun k hk => ?_⟩
  · rw [hiv]
    exact hv.block fun k hk _ => heap_setCell _ _ _ _ fun e => (hfp k hk).1 e
  · refine Fr.trans (S' := fun k => k = T.p) ⟨hg.os, hg.tape, hg.output, hg.size, fun k hk hn => hg.block k hk fun e => hn (.inr (.inr (.inl e.symm)))⟩ ⟨rfl, rfl, rfl, by simp [World.setCell], fun k _ hn => heap_setCell _ _ _ _ hn⟩ fun j hj => .inl (.inl hj)
  · rcases hk with hk | hk | hk | hk
    · exact .inl (.inl hk)
    · exact .inl (.inr (.inl hk))
    · rcases ho with e | e
      · exact .inl (.inr (.inr (.inl (by rw [← e]; exact hk))))
      · right
        have hk' : v'.ownBlock = some k := hk
        rw [e] at hk'; cases hk'; exact Nat.le_refl _
    · exact .inl (.inr (.inr (.inr hk)))
theorem own_one {w : World} {base : Nat} {Ty : TypeId} {v : Value} {l : List Value} (h : OwnV w base Ty v l) : v.cells = #[v] ∧ v.oneCell' = true := by
  obtain ⟨A, cap, e, _⟩ := h.sl
  rw [e]; exact ⟨rfl, rfl⟩
/-- What a cut leaves. -/
structure Cut (w w' : World) (T : Tn) (b c K a : Nat) (pl : Int → Option Int) (lv : List Int) (T' : Tn) (F' al' lv' : List Int) : Prop where
  ts : TS w' T' F' al' lv' b c pl (K + 2)
  af : Aft w w' T T' b lv
  lv : ((a : Int) :: lv').Perm lv
  out : (a : Int) ∉ al' ++ F'
  lt : a < T'.N
  at_ : T'.m a = T.m a
set_option maxRecDepth 100000 in
set_option maxHeartbeats 4000000 in
theorem cutTop {T : Tn} {F al : List Int} {b c K a : Nat} {pl : Int → Option Int} (w : World) {m0 : M} (h : TSm w T m0 F al [(a : Int)] b c pl K) (hal : [(a : Int)].Perm al) (hu : (T.m a).u = -1) (haN : a < T.N) :
    Calls Try.prog 37 #[.pointer (some ⟨T.p, 0, none⟩), .int .i64 (a : Int)] w fun e w' => e = .returned (.tuple #[]) ∧ ∃ T' F' al' lv', Cut w w' T b c K a pl [(a : Int)] T' F' al' lv' := by
  have hT : TN w T := by
    rcases h.tx.to with ⟨h0, _⟩ | h
    · omega
    · exact h
  have c2 := hT.nodes
  have cu := hT.cell haN (j := 13) rfl
  rw [hu] at cu
  obtain ⟨lp, lg⟩ := TN.lt hT
  have a0 : 0 ≤ (a : Int) ∧ (a : Int) < T.N := by omega
  have u1 : ((-1 : Int) == -1) = true := by decide
  have HS := Lib.hid h; have HT := Lib.hid hT; have HAL := Lib.hid hal
  clear h hT hal hu
  go_enter Try.func37, Try.ntmps37
  go_wp2_with (refine wpL_tf (T := T) (x := .tmp 19) (y := .const (.int .i64 (-1))) (n := -1) (by rfl) (by rfl) (by rfl) (by rfl) HT.out ?_; intro w2 h2 m2)
  simp only [Act.put]
  refine bodyPost_ret (v := .tuple #[]) (by simp [results, Try.results37, go_sem]) rfl ?_
  have hx2 := HS.out.tx.moved (m := T.m) (t := -1) h2 m2
  have haF : (a : Int) ∉ F := fun hm => (List.nodup_append.1 HS.out.nd).2.2 _ (HAL.out.mem_iff.1 (List.mem_singleton.2 rfl)) _ hm rfl
  refine ⟨rfl, { T with top := -1 }, F, [], [], ⟨hx2, .inl ⟨rfl, rfl, rfl⟩, (List.nodup_append.1 HS.out.nd).2.1, fun i hi => HS.out.rng i (List.mem_append_right _ hi), ?_, ?_, Nat.zero_le _⟩, ⟨rfl, rfl, fun i hi => ⟨rfl, rfl, rfl⟩, Fr.of_mod (S := own T b) m2 (.inl rfl) (.inr (.inl rfl)), fun k hk => .inl hk⟩, List.Perm.refl _, haF, haN, rfl⟩
  · have := HS.out.n1; show T.N ≤ K + 2; omega
  · have := HS.out.n2; omega
set_option maxRecDepth 100000 in
set_option maxHeartbeats 4000000 in
theorem cutOn {T : Tn} {F al lv : List Int} {b c K a i : Nat} {pl : Int → Option Int} {cx' : Cx} {s : Tr} (w : World) {m0 : M} (h : TSm w T m0 F al lv b c pl K) (hK : K < 90000) (haN : a < T.N) (hiN : i < T.N) (hu : (T.m a).u = i) (hiu : (T.m i).u = cx'.up) (hsum : (T.m i).l + (T.m i).r - a = s.ix)
    (hlr : (0 ≤ (T.m i).l ∧ (T.m i).l < 1000000) ∧ 0 ≤ (T.m i).r ∧ (T.m i).r < 1000000) (htop : T.top = cx'.root i) (hall : ((a : Int) :: (i : Int) :: (s.all ++ cx'.all)).Perm al) (hlv : ((a : Int) :: (s.lv ++ cx'.lv)).Perm lv)
    (hcut : ∃ m2, change T.m (cx'.root i) cx'.up i s.ix = (m2, cx'.root s.ix) ∧ MI T.m m2 (cx'.root s.ix) cx'.up cx'.len (s.all ++ cx'.all) (s.lv ++ cx'.lv)) (hn : ∀ k ∈ lv, (T.m k).n ≠ 0) :
    Calls Try.prog 37 #[.pointer (some ⟨T.p, 0, none⟩), .int .i64 (a : Int)] w fun e w' => e = .returned (.tuple #[]) ∧ ∃ T' F' al' lv', Cut w w' T b c K a pl lv T' F' al' lv' := by
  have hT : TN w T := by
    rcases h.tx.to with ⟨h0, _⟩ | h
    · omega
    · exact h
  have sR := h.rng s.ix (List.mem_append_left _ (hall.mem_iff.1 (List.mem_cons_of_mem _ (List.mem_cons_of_mem _ (List.mem_append_left _ s.ix_all)))))
  have cxR : cx'.up = -1 ∨ 0 ≤ cx'.up ∧ cx'.up < T.N := by
    rcases up_in (c := cx') with h' | h'
    · exact .inl h'
    · exact .inr (h.rng _ (List.mem_append_left _ (hall.mem_iff.1 (List.mem_cons_of_mem _ (List.mem_cons_of_mem _ (List.mem_append_right _ h'))))))
  obtain ⟨m2, ec, hMI⟩ := hcut
  obtain ⟨sk, hsk⟩ : ∃ n : Nat, s.ix = n := ⟨s.ix.toNat, by omega⟩
  rw [hsk] at ec hMI hsum sR
  obtain ⟨lk, hlk⟩ : ∃ l, (T.m i).l = l := ⟨_, rfl⟩
  obtain ⟨rk, hrk⟩ : ∃ r, (T.m i).r = r := ⟨_, rfl⟩
  rw [hlk, hrk] at hlr
  rw [hlk, hrk] at hsum
  obtain ⟨up, hup⟩ : ∃ u, cx'.up = u := ⟨_, rfl⟩
  rw [hup] at hiu ec hMI cxR
  have c2 := hT.nodes
  have cu := hT.cell haN (j := 13) rfl
  rw [hu] at cu
  obtain ⟨lp, lg⟩ := TN.lt hT
  have a0 : 0 ≤ (a : Int) ∧ (a : Int) < T.N := by omega
  have i0 : 0 ≤ (i : Int) ∧ (i : Int) < T.N := by omega
  have u1 : ((i : Int) == -1) = false := by simp only [beq_eq_false_iff_ne, ne_eq]; omega
  have v1 : IntKind.i64.wrap (lk + rk) = lk + rk := by rw [IntKind.wrap_i64]; omega
  have v2 : IntKind.i64.wrap (lk + rk - a) = (sk : Int) := by rw [IntKind.wrap_i64]; omega
  have hat : At' w T.g (i * 17) (ndv (T.m i)) := TN.at hT hiN
  have BN : Box (w.alloc (.cells (ndv (T.m i)).toArray 71)) w.heap.size (ndv (T.m i)) 71 := Box.new rfl
  have hS2 : Below w.heap.size w (w.alloc (.cells (ndv (T.m i)).toArray 71)) := (Below.refl _ _).alloc (Nat.le_refl _) _
  have c14 : (w.alloc (.cells (ndv (T.m i)).toArray 71)).cell? ⟨w.heap.size, 14, none⟩ = some (.int .i64 lk) := by rw [BN.cell, ← hlk]; rfl
  have c15 : (w.alloc (.cells (ndv (T.m i)).toArray 71)).cell? ⟨w.heap.size, 15, none⟩ = some (.int .i64 rk) := by rw [BN.cell, ← hrk]; rfl
  have c13 : (w.alloc (.cells (ndv (T.m i)).toArray 71)).cell? ⟨w.heap.size, 13, none⟩ = some (.int .i64 up) := by rw [BN.cell, ← hiu]; rfl
  have l14 := BN.lt
  have HS := Lib.hid h; have HT := Lib.hid hT; have HAL := Lib.hid hall; have HLV := Lib.hid hlv; have HM := Lib.hid hMI; have HC := Lib.hid ec; have HN := Lib.hid hn; have HCX := Lib.hid cxR; have HTP := Lib.hid htop
  clear h hT hall hlv hu hMI ec hn cxR htop
  go_enter Try.func37, Try.ntmps37
  go_wp2_with (refine wpL_at (l := ndv (T.m i)) (by rfl) (by rfl) hat Try.underlying71 (by rfl) (szN _) (by kernel_rfl) ?_; (conv => arg 5; simp only [Act.put, List.setIfInBounds_toArray, List.set_cons_zero, List.set_cons_succ]); refine wpL_go (v := .pointer (some ⟨w.heap.size, 0, none⟩)) (w' := w.alloc (.cells [.int .i64 0, .int .i64 0, .int .i64 0, .int .i64 0, .int .i64 0, .int .i64 0, .int .i64 0, .int .i64 0, .int .i64 0, .int .i64 0, .int .i64 0, .int .i64 0, .int .i64 0, .int .i64 0, .int .i64 0, .int .i64 0, .int .i64 0].toArray 71)) (by kernel_rfl) (by go_simp) ?_; (conv => arg 5; simp only [Act.put, List.setIfInBounds_toArray, List.set_cons_zero, List.set_cons_succ]); refine wpL_store (cs := ndv (T.m i)) (by rfl) (by rfl) (by rfl) (Box.new rfl) (szN _) (by rfl) (nd_one _) (by kernel_rfl) ?_; (conv => arg 5; simp only [Act.put, List.setIfInBounds_toArray, List.set_cons_zero, List.set_cons_succ]); rw [alloc_setRow]; refine wpList_nil ?_)
  have hT1 := HT.out.step hS2
  have hX1 := HS.out.tx.step hS2
  have hF1 := Fr.of_below (S := own T b) hS2
  obtain ⟨gx, hgx⟩ : ∃ g, w.heap.size = g := ⟨_, rfl⟩
  revert BN hT1 hX1 hF1
  rw [hgx]
  generalize w.alloc (.cells (ndv (T.m i)).toArray 71) = w1
  intro BN hT1 hX1 hF1
  clear hS2 c14 c15 c13 l14 hat c2 cu lp lg
  have hCH := changeC (T := T) (up := up) (was := (i : Int)) (now := (sk : Int)) w1 hT1 HCX.out ⟨by omega, by omega⟩
  rw [HTP.out, HC.out] at hCH
  refine hCH.mono ?_
  clear hCH
  rintro e w2 ⟨rfl, h2, m2'⟩
  have hX2 := hX1.moved (m := m2) (t := cx'.root sk) h2 m2'
  have gxT : gx ≠ T.p ∧ gx ≠ T.g := by have := TN.lt HT.out; omega
  have gxF : T.fr.ownBlock ≠ some gx := fun e => by have := HS.out.tx.lt _ (.inr (.inr (.inl e))); omega
  have B2 : Box w2 gx (ndv (T.m i)) 71 := (m2'.block gx BN.lt gxT.1 gxT.2).trans BN
  have F2 : Fr w w2 (own T b) := hF1.trans (Fr.of_mod (S := own T b) m2' (.inl rfl) (.inr (.inl rfl))) (fun j h => .inl h)
  have hWa : Below w2.heap.size w2 (w2.alloc (.cells [.int .i64 (i : Int)].toArray 3)) := (Below.refl _ _).alloc (Nat.le_refl _) _
  have hXa := hX2.step hWa
  have hTa := h2.step hWa
  have B2a := B2.step hWa
  have hF2a := F2.trans (Fr.of_below (S := own T b) hWa) (fun j h => .inl h)
  have hOa : OwnV (w2.alloc (.cells [.int .i64 (i : Int)].toArray 3)) 0 3 T.fr (iv F) := hXa.fr
  have hXc : (w2.alloc (.cells [.int .i64 (i : Int)].toArray 3)).cell? ⟨w2.heap.size, 0, none⟩ = some (.int .i64 (i : Int)) := by rw [(Box.new rfl : Box _ w2.heap.size [.int .i64 (i : Int)] 3).cell]; rfl
  have hlen : (iv F).length ≤ 1000000 := by have := HS.out.n2; rw [iv_len]; omega
  have c3 : w2.cell? ⟨T.p, 3, none⟩ = some T.fr := TO.fr (T := { T with m := m2, top := cx'.root sk }) (.inr h2)
  have l3 : T.p < w2.heap.size := (TN.lt (T := { T with m := m2, top := cx'.root sk }) h2).1
  have H2 := Lib.hid h2
  have HXa := Lib.hid hXa; have HTa := Lib.hid hTa; have HBa := Lib.hid B2a; have HFa := Lib.hid hF2a
  clear h2 hX2 hX1 hT1 BN B2 hXa hTa B2a hF2a hWa m2' F2 hF1
  have C37 := Lib.hid (fun (v7 : Value) (w7 : World) (hG : World.grownBy (w2.alloc (.cells [.int .i64 (i : Int)].toArray 3)) w7 T.fr.ownBlock) => (show w7.cell? ⟨T.p, 3, none⟩ = some T.fr ∧ w7.frozen? ⟨T.p, 3, none⟩ = false ∧ T.p < w7.heap.size from by
    have hp := hG.block _ (TN.lt HTa.out).1 fun e => (HXa.out.fp _ e.symm).1 rfl
    have hb := Box.block HTa.out.box hp
    exact ⟨by rw [hb.cell]; rfl, hb.free 3, hb.lt⟩))
  have PU := Lib.hid (fun (v7 : Value) (w7 : World) (hO : OwnV w7 0 3 v7 (iv F ++ [.int .i64 (i : Int)])) (hG : World.grownBy (w2.alloc (.cells [.int .i64 (i : Int)].toArray 3)) w7 T.fr.ownBlock) (hL : v7.ownBlock = T.fr.ownBlock ∨ v7.ownBlock = some (w2.alloc (.cells [.int .i64 (i : Int)].toArray 3)).heap.size) => TX.push HXa.out HTa.out hO hG hL)
  have C13 := Lib.hid (fun (v7 : Value) (w7 : World) (hG : World.grownBy (w2.alloc (.cells [.int .i64 (i : Int)].toArray 3)) w7 T.fr.ownBlock) => (show (w7.setCell ⟨T.p, 3, none⟩ v7).cell? ⟨gx, 13, none⟩ = some (.int .i64 up) from by
    have hp : w7.heap[gx]? = (w2.alloc (.cells [.int .i64 (i : Int)].toArray 3)).heap[gx]? := hG.block _ HBa.out.lt fun e => gxF e.symm
    have hb : Box (w7.setCell ⟨T.p, 3, none⟩ v7) gx (ndv (T.m i)) 71 := Box.block (Box.block HBa.out hp) (heap_setCell _ _ _ _ gxT.1)
    rw [hb.cell, ← hiu]; rfl))
  have hsize := (Nat.le_refl (w2.alloc (.cells [.int .i64 (i : Int)].toArray 3)).heap.size)
  go_wp2_with (first | (at_builtin; refine wpV_app Try.underlying29 infoI (by rfl) (by decide) (by rfl) (.tmp 44) (.tmp 46) (by rfl) (by rfl) hOa (by rfl) hXc (by rfl) hlen (Nat.zero_le _) ?_; intro v7 w7 hO7 hG7 hL7 hB7; have s7 := own_one hO7; obtain ⟨c37, f37, l37⟩ := C37.out v7 w7 hG7; have P7 := Lib.hid (PU.out _ w7 hO7 hG7 hL7); have d13 := C13.out v7 w7 hG7; clear hO7 hG7 hL7 hB7) | (refine wpL_sc (x := .tmp 49) (y := .tmp 47) (b := T.p) (off := 3) (v := v7) (by rfl) (by rfl) (by rfl) (by rfl) s7.1 s7.2 szIs (by rw [c37]; rfl) f37 ?_))
  revert d13 P7
  generalize w7.setCell ⟨T.p, 3, none⟩ v7 = w8
  intro P7 d13
  obtain ⟨q1, q2, q3, q4⟩ := P7.out
  have ND : ((a : Int) :: ((s.all ++ cx'.all) ++ (F ++ [(i : Int)]))).Nodup := by
    have p1 : (al ++ F).Perm ((a : Int) :: ((s.all ++ cx'.all) ++ (F ++ [(i : Int)]))) := by
      refine (List.Perm.append_right F HAL.out.symm).trans (List.Perm.cons _ ?_)
      rw [← List.append_assoc (s.all ++ cx'.all)]
      exact (List.perm_append_comm (l₁ := (s.all ++ cx'.all) ++ F) (l₂ := [(i : Int)])).symm
    exact p1.nodup_iff.1 HS.out.nd
  have hIn : In (s.all ++ cx'.all) T.N := by
    refine ⟨fun k hk => HS.out.rng k (List.mem_append_left _ (HAL.out.mem_iff.1 (List.mem_cons_of_mem _ (List.mem_cons_of_mem _ hk)))), ?_⟩
    have h1 := HAL.out.length_eq
    have h2 := HS.out.n3
    simp only [List.length_cons] at h1
    omega
  have hMD := mendC (T := { T with m := m2, top := cx'.root sk, fr := v7 }) w8 q2 HM.out hIn
  refine hMD.mono ?_
  clear hMD
  rintro e w9 ⟨rfl, m9, t9, k9, h9, hI9, M9⟩
  obtain ⟨hKt, T9, hW⟩ := hI9.end_
  have FIN := Lib.hid (show ∃ T' F' al' lv', Cut w w9 T b c K a pl lv T' F' al' lv' from by
    have nd := List.nodup_cons.1 ND
    have hx := q1.moved (m := m9) (t := t9) h9 M9
    have hF8 : Fr w w8 (own T b) := HFa.out.trans q3 (fun j h => .inl h)
    have hO8 : ∀ k, own { T with fr := v7 } b k → own T b k ∨ w.heap.size ≤ k := fun k hk => (q4 k hk).imp id (fun h => by have := HFa.out.size; omega)
    refine ⟨{ T with m := m9, top := t9, fr := v7 }, F ++ [(i : Int)], s.all ++ cx'.all, s.lv ++ cx'.lv, ⟨hx, .inr ⟨T9, hW.rep, hW.fit, hW.bal, hW.top_is, hW.all, hW.lv⟩, nd.2, fun k hk => ?_, ?_, ?_, ?_⟩, ⟨rfl, rfl, fun k hk => ?_, hF8.trans (Fr.of_mod (S := own { T with fr := v7 } b) M9 (.inl rfl) (.inr (.inl rfl))) hO8, hO8⟩, HLV.out, nd.1, haN, ?_⟩
    · show 0 ≤ k ∧ k < (T.N : Int)
      rcases List.mem_append.1 hk with hk | hk
      · exact hIn.mem k hk
      · rcases List.mem_append.1 hk with hk | hk
        · exact HS.out.rng k (List.mem_append_right _ hk)
        · rw [List.mem_singleton.1 hk]; exact i0
    · have := HS.out.n1; show T.N ≤ K + 2; omega
    · have := HS.out.n2; rw [List.length_append, List.length_singleton]; omega
    · have h1 := HAL.out.length_eq
      have h2 := HS.out.n3
      simp only [List.length_cons] at h1
      omega
    · have := hKt.same k
      exact ⟨this.2.1, this.1, this.2.2 (HN.out k hk)⟩
    · exact hKt.out a fun hm => nd.1 (List.mem_append_left _ hm))
  clear P7 q1 q2 q3 q4 ND hIn h9 hI9 M9 hKt hW HM HC d13
  go_wp2_with fail
  go_end0
  exact ⟨rfl, FIN.out⟩
/-- A leaf taken off, wherever it hangs: its bound may have been turned. -/
theorem cutM {T : Tn} {m0 : M} {F al lv : List Int} {b c K a : Nat} {pl : Int → Option Int} (w : World) (h : TSm w T m0 F al lv b c pl K) (hK : K < 90000) (ha : (a : Int) ∈ lv) (hm : ∀ k, k ≠ (a : Int) → T.m k = m0 k) (hma : (T.m a).u = (m0 a).u ∧ (T.m a).n = (m0 a).n) :
    Calls Try.prog 37 #[.pointer (some ⟨T.p, 0, none⟩), .int .i64 (a : Int)] w fun e w' => e = .returned (.tuple #[]) ∧ ∃ T' F' al' lv', Cut w w' T b c K a pl lv T' F' al' lv' := by
  rcases h.sh with ⟨h1, rfl, rfl⟩ | ⟨s, h1, h2, h3, h4, h5, h6⟩
  · cases ha
  · have nd : s.all.Nodup := h5.nodup_iff.2 (List.nodup_append.1 h.nd).1
    have ps : ∀ i ∈ s.all, 0 ≤ i := fun i hi => (h.rng i (List.mem_append_left _ (h5.mem_iff.1 hi))).1
    have has : (a : Int) ∈ s.lv := h6.mem_iff.2 ha
    have haN : a < T.N := by have := (h.rng _ (List.mem_append_left _ (h5.mem_iff.1 (s.lv_all _ has)))).2; omega
    have hn : ∀ k ∈ lv, (T.m k).n ≠ 0 := fun k hk => by
      have := rep_n h1 k (h6.mem_iff.2 hk)
      by_cases e : k = a
      · rw [e] at this ⊢; rw [hma.2]; omega
      · rw [hm k e]; omega
    obtain ⟨cx, hf, hr, p1, p2⟩ := (Foc.start h1 h2 h3 nd ps).find has
    have p1 : ((a : Int) :: cx.all).Perm al := p1.trans (by simpa [Cx.all] using h5)
    have p2 : ((a : Int) :: cx.lv).Perm lv := p2.trans (by simpa [Cx.lv] using h6)
    rcases hf.above with rfl | ⟨cx', q, i, e1, e2, e3, e4, e5, e6, e7, e8, e9, e10, ⟨H, e11, e12, e13⟩, e14, e15, e16, e17, e18⟩
    · have hlv : lv = [(a : Int)] := by
        have q : lv.Perm [(a : Int)] := p2.symm
        exact List.perm_singleton.1 q
      subst hlv
      exact cutTop w h p1 (hma.1.trans hf.rep.1) haN
    · have iA : i ∈ al := p1.mem_iff.1 (List.mem_cons_of_mem _ (e15.mem_iff.2 (List.mem_cons_self ..)))
      have iR := h.rng i (List.mem_append_left _ iA)
      obtain ⟨i, rfl⟩ : ∃ n : Nat, i = n := ⟨i.toNat, by omega⟩
      have hall : ((a : Int) :: (i : Int) :: (q.all ++ cx'.all)).Perm al := (List.Perm.cons _ e15.symm).trans p1
      have ndA := hall.nodup_iff.2 (List.nodup_append.1 h.nd).1
      have na := (List.nodup_cons.1 ndA).1
      have hia : (i : Int) ≠ a := fun e => na (by rw [← e]; exact List.mem_cons_self ..)
      have hqa : ∀ k ∈ q.all, T.m k = m0 k := fun k hk => hm k fun e => na (by rw [← e]; exact List.mem_cons_of_mem _ (List.mem_append_left _ hk))
      have hca : ∀ k ∈ cx'.all, T.m k = m0 k := fun k hk => hm k fun e => na (by rw [← e]; exact List.mem_cons_of_mem _ (List.mem_append_right _ hk))
      have hmi := hm i hia
      have qR := h.rng q.ix (List.mem_append_left _ (hall.mem_iff.1 (List.mem_cons_of_mem _ (List.mem_cons_of_mem _ (List.mem_append_left _ q.ix_all)))))
      have hN := h.n1
      have hc := cut_ok (Rep.frame hqa e4) (RepC.frame hca e5) (Fit.keep e6 hqa) (FitC.keep e7 hca) e8 e9 e10 e11 e12 e13
      have hlr : (0 ≤ (m0 i).l ∧ (m0 i).l < 1000000) ∧ 0 ≤ (m0 i).r ∧ (m0 i).r < 1000000 := by
        have hrc := hf.repc
        cases cx with
        | top => simp only [Cx.up] at e2; omega
        | inl j c2 r2 =>
          have e2' : j = i := e2
          subst e2'
          have a1 := hrc.2.2.1; have a2 := hrc.2.2.2.1
          simp only [Tr.ix] at a1
          omega
        | inr j l2 c2 =>
          have e2' : j = i := e2
          subst e2'
          have a1 := hrc.2.2.1; have a2 := hrc.2.2.2.1
          simp only [Tr.ix] at a2
          omega
      exact cutOn w h hK haN (by omega) (by rw [hma.1, hf.rep.1, e2]) (by rw [hmi]; exact e3) (by rw [hmi]; exact e1) (by rw [hmi]; exact hlr) (by rw [h4, ← e14]; exact hr.symm) hall (by rw [e16] at p2; exact p2) hc hn
/-- .. as it is. -/
theorem cutC {T : Tn} {F al lv : List Int} {b c K a : Nat} {pl : Int → Option Int} (w : World) (h : TS w T F al lv b c pl K) (hK : K < 90000) (ha : (a : Int) ∈ lv) :
    Calls Try.prog 37 #[.pointer (some ⟨T.p, 0, none⟩), .int .i64 (a : Int)] w fun e w' => e = .returned (.tuple #[]) ∧ ∃ T' F' al' lv', Cut w w' T b c K a pl lv T' F' al' lv' := cutM w h hK ha (fun _ _ => rfl) ⟨rfl, rfl⟩
end TCt
end Go.Proofs.Ytbcjnckejkjfeaa
namespace Go.NP
set_option linter.unusedVariables false
set_option linter.unusedSimpArgs false
structure En where
  n : Int
  b : Bd
  fat : Bd
  deriving DecidableEq
namespace TrE
def Rise (L : List En) : Prop := L.Pairwise fun a b => a.n < b.n
def lo (L : List En) (n : Int) : List En := L.takeWhile fun e => decide (e.n < n)
def hi (L : List En) (n : Int) : List En := L.dropWhile fun e => decide (e.n < n)
def isIn (L : List En) (n : Int) : Bool := L.any fun e => e.n == n
def ins (L : List En) (e : En) : List En := lo L e.n ++ e :: hi L e.n
def del (L : List En) (n : Int) : List En := lo L n ++ (hi L n).drop 1
def upd (L : List En) (e : En) : List En := lo L e.n ++ e :: (hi L e.n).drop 1
def get (L : List En) (n : Int) : Option En := L.find? fun e => e.n == n
theorem lo_hi (L : List En) (n : Int) : lo L n ++ hi L n = L := List.takeWhile_append_dropWhile
theorem lo_lt {L : List En} {n : Int} : ∀ a ∈ lo L n, a.n < n := fun a ha => by
  unfold lo at ha
  simpa using List.all_eq_true.1 (List.all_takeWhile (l := L) (p := fun e => decide (e.n < n))) a ha
theorem hi_ge {n : Int} : ∀ {L : List En}, Rise L → ∀ a ∈ hi L n, n ≤ a.n
  | [], _, a, h => by cases h
  | x :: r, hr, a, h => by
    unfold hi at h
    rw [List.dropWhile_cons] at h
    have hr' := List.pairwise_cons.1 hr
    split at h
    · exact hi_ge hr'.2 a h
    · rename_i hx
      have hx' : ¬ x.n < n := by simpa using hx
      rcases List.mem_cons.1 h with rfl | h
      · omega
      · have := hr'.1 a h; omega
theorem isIn_iff {L : List En} {n : Int} : isIn L n = true ↔ ∃ e ∈ L, e.n = n := by unfold isIn; simp [List.any_eq_true]
theorem not_in {L : List En} {n : Int} : isIn L n = false ↔ ∀ e ∈ L, e.n ≠ n := by
  rw [← Bool.not_eq_true, isIn_iff]
  constructor
  · intro h e he e'; exact h ⟨e, he, e'⟩
  · rintro h ⟨e, he, e'⟩; exact h e he e'
theorem hi_no {L : List En} {n : Int} (hr : Rise L) (h : isIn L n = false) : ∀ a ∈ hi L n, n < a.n := fun a ha => by
  have h1 := hi_ge hr a ha
  have h2 := not_in.1 h a (by rw [← lo_hi L n]; exact List.mem_append_right _ ha)
  omega
theorem hi_in {L : List En} {n : Int} (hr : Rise L) (h : isIn L n = true) : ∃ e r, hi L n = e :: r ∧ e.n = n ∧ e ∈ L ∧ ∀ a ∈ r, n < a.n := by
  obtain ⟨e, he, en⟩ := isIn_iff.1 h
  have h1 : e ∈ hi L n := by
    rw [← lo_hi L n] at he
    rcases List.mem_append.1 he with h | h
    · have := lo_lt e h; omega
    · exact h
  have hR : Rise (hi L n) := List.Pairwise.sublist (List.dropWhile_sublist _) hr
  cases hq : hi L n with
  | nil => rw [hq] at h1; cases h1
  | cons x r =>
    rw [hq] at h1 hR
    have hx := hi_ge hr x (by rw [hq]; exact List.mem_cons_self ..)
    have hR' := List.pairwise_cons.1 hR
    rcases List.mem_cons.1 h1 with rfl | h1
    · exact ⟨e, r, rfl, en, by rw [← lo_hi L n, hq]; exact List.mem_append_right _ (List.mem_cons_self ..), fun a ha => by have := hR'.1 a ha; omega⟩
    · have := hR'.1 e h1; omega
theorem ins_perm (L : List En) (e : En) : (ins L e).Perm (e :: L) := by
  unfold ins
  refine List.perm_middle.trans ?_
  rw [lo_hi]
theorem ins_rise {L : List En} {e : En} (hr : Rise L) (h : isIn L e.n = false) : Rise (ins L e) := by
  have hl : Rise (lo L e.n) := List.Pairwise.sublist (List.takeWhile_sublist _) hr
  have hh : Rise (hi L e.n) := List.Pairwise.sublist (List.dropWhile_sublist _) hr
  refine List.pairwise_append.2 ⟨hl, List.pairwise_cons.2 ⟨hi_no hr h, hh⟩, fun a ha b hb => ?_⟩
  have h1 := lo_lt a ha
  rcases List.mem_cons.1 hb with rfl | hb
  · exact h1
  · have := hi_no hr h b hb; omega
/-- What is dropped stood there. -/
theorem del_perm {L : List En} {n : Int} (hr : Rise L) (h : isIn L n = true) : ∃ e, e ∈ L ∧ e.n = n ∧ L.Perm (e :: del L n) := by
  obtain ⟨e, r, h1, h2, h3, h4⟩ := hi_in hr h
  refine ⟨e, h3, h2, ?_⟩
  unfold del
  rw [h1]
  conv => lhs; rw [← lo_hi L n, h1]
  exact List.perm_middle
theorem del_sub (L : List En) (n : Int) : (del L n).Sublist L := by
  conv => rhs; rw [← lo_hi L n]
  exact List.Sublist.append (List.Sublist.refl _) (List.drop_sublist _ _)
theorem del_rise {L : List En} (n : Int) (hr : Rise L) : Rise (del L n) := List.Pairwise.sublist (del_sub L n) hr
theorem del_out {L : List En} {n : Int} (hr : Rise L) (h : isIn L n = true) : isIn (del L n) n = false := by
  obtain ⟨e, r, h1, h2, h3, h4⟩ := hi_in hr h
  refine not_in.2 fun a ha => ?_
  unfold del at ha
  rw [h1] at ha
  rcases List.mem_append.1 ha with ha | ha
  · have := lo_lt a ha; omega
  · have := h4 a ha; omega
theorem lo_del {L : List En} {n : Int} (hr : Rise L) (h : isIn L n = true) : lo (del L n) n = lo L n ∧ hi (del L n) n = (hi L n).drop 1 := by
  obtain ⟨e, r, h1, h2, h3, h4⟩ := hi_in hr h
  have q : ∀ a ∈ lo L n, decide (a.n < n) = true := fun a ha => by simpa using lo_lt a ha
  unfold del
  rw [h1]
  show lo (lo L n ++ r) n = _ ∧ hi (lo L n ++ r) n = r
  have e1 : r.takeWhile (fun e => decide (e.n < n)) = [] ∧ r.dropWhile (fun e => decide (e.n < n)) = r := by
    cases r with
    | nil => exact ⟨rfl, rfl⟩
    | cons x r =>
      have := h4 x (List.mem_cons_self ..)
      have hx : ¬ x.n < n := by omega
      simp [List.takeWhile_cons, List.dropWhile_cons, hx]
  constructor
  · show (lo L n ++ r).takeWhile _ = _
    rw [List.takeWhile_append_of_pos q, e1.1, List.append_nil]
  · show (lo L n ++ r).dropWhile _ = _
    rw [List.dropWhile_append_of_pos q, e1.2]
/-- Set is dropped and put. -/
theorem upd_ins {L : List En} {e : En} (hr : Rise L) (h : isIn L e.n = true) : ins (del L e.n) e = upd L e := by
  unfold ins upd
  rw [(lo_del hr h).1, (lo_del hr h).2]
theorem upd_perm {L : List En} {e : En} (hr : Rise L) (h : isIn L e.n = true) : (upd L e).Perm (e :: del L e.n) := by rw [← upd_ins hr h]; exact ins_perm _ _
theorem upd_rise {L : List En} {e : En} (hr : Rise L) (h : isIn L e.n = true) : Rise (upd L e) := by rw [← upd_ins hr h]; exact ins_rise (del_rise _ hr) (del_out hr h)
theorem rise_n {L : List En} (hr : Rise L) {a b : En} (ha : a ∈ L) (hb : b ∈ L) (h : a.n = b.n) : a = b := by
  induction L with
  | nil => cases ha
  | cons x r ih =>
    have hr' := List.pairwise_cons.1 hr
    rcases List.mem_cons.1 ha with ea | ha
    · rcases List.mem_cons.1 hb with eb | hb
      · rw [ea, eb]
      · have := hr'.1 b hb; rw [ea] at h; omega
    · rcases List.mem_cons.1 hb with eb | hb
      · have := hr'.1 a ha; rw [eb] at h; omega
      · exact ih hr'.2 ha hb
theorem get_in {L : List En} {n : Int} {e : En} (h : get L n = some e) : e ∈ L ∧ e.n = n := ⟨List.mem_of_find?_eq_some h, by simpa using List.find?_some h⟩
theorem get_of {L : List En} {n : Int} {e : En} (hr : Rise L) (he : e ∈ L) (hn : e.n = n) : get L n = some e := by
  cases h : get L n with
  | none => have := List.find?_eq_none.1 h e he; simp [hn] at this
  | some x => have := get_in h; rw [rise_n hr this.1 he (by omega)]
theorem get_none {L : List En} {n : Int} : get L n = none ↔ isIn L n = false := by
  rw [not_in]; unfold get; rw [List.find?_eq_none]; simp
theorem get_isIn {L : List En} {n : Int} {e : En} (h : get L n = some e) : isIn L n = true := isIn_iff.2 ⟨e, get_in h⟩
/-- What is told. -/
def tell (q : Bd → Bool) (L : List En) : List Int := (L.filter fun e => q e.b).map (·.n)
def pairsL : List En → List (Int × Int)
  | [] => []
  | e :: r => ((r.filter fun x => meet e.b x.b).map fun x => (e.n, x.n)) ++ pairsL r
end TrE
end Go.NP
namespace Go.Proofs.Ytbcjnckejkjfeaa
set_option linter.unusedVariables false
set_option linter.unusedSimpArgs false
open Go.RowKit Go.NP Go.Maps
namespace TMp
open QVm
def delV (m : Int → Option Value) (n : Int) : Int → Option Value := fun k => if k = n then none else m k
theorem kl_ne {k n : Int} (e : k ≠ n) : kl k ≠ kl n := fun h => e (by injection h)
section
variable {w : World} {b c : Nat} {m : Int → Option Value} {n : Int} {T E : TypeId} {ops : Array Oper} {r : List Oper} {o : Oper} {a : Act} {Q : Exit → Act → World → Prop}
theorem VM.delD {D : DataW Value} (h2 : ∀ k, wfI k → Maps.has D (kl k) = (m k).isSome ∧ ∀ v, m k = some v → ∀ z, D.atKey (kl k) z = .held v) : ∀ k, wfI k → Maps.has (D.del (kl n)) (kl k) = (delV m n k).isSome ∧ ∀ v, delV m n k = some v → ∀ z, (D.del (kl n)).atKey (kl k) z = .held v := fun k hk => by
  unfold delV
  by_cases e : k = n
  · subst e
    rw [if_pos rfl]
    exact ⟨Maps.has_del_same, fun v hv => by cases hv⟩
  · rw [if_neg e]
    refine ⟨by rw [Maps.has_del_other (kl_ne e)]; exact (h2 k hk).1, fun v hv z => ?_⟩
    rw [Maps.atKey_del_other (kl_ne e)]
    exact (h2 k hk).2 v hv z
theorem wpL_del (hgd : o.guard = none) (mo x : Operand) (ho : o.op = Op.call { callee := Callee.builtin Builtin.delete, args := #[mo, x], argTypes := #[T, 3] }) (hm : a.eval mo = .map (some b)) (hx : a.eval x = .int .i64 n) (h : VM w b m c) (hn : wfI n) (hT : Try.prog.underlying T = some (.map 3 E))
    (hK : ∀ w', VM w' b (delV m n) c → w.mapTurned w' b → wpList Try.prog ops Q r (a.put o.dst (.tuple #[])) w') : wpList Try.prog ops Q (o :: r) a w := by
  obtain ⟨D, h1, h2⟩ := h
  exact wpList_delete_own w hgd mo x T 3 ho E kyd hT RV b c D hm h1 _ (kl n) hx (keyK hn) fun w' r1 r2 => hK w' ⟨_, r1, VM.delD h2⟩ r2
theorem VM.size (h : VM w b m c) {L : List Int} (hL : L.Pairwise (· < ·)) (hm : ∀ x, x ∈ L ↔ wfI x ∧ (m x).isSome = true) : ∃ D : DataW Value, w.ownsMap Try.prog 3 RV b c D ∧ Maps.size D = L.length := by
  obtain ⟨D, h1, h2⟩ := h.keys hL hm
  refine ⟨D, h1, ?_⟩
  obtain ⟨es, rfl⟩ := h1.isMap
  have := (h2 _ (List.Perm.refl _)).2
  rw [← this]
  show es.length = (es.map _).length
  rw [List.length_map]
theorem wpL_mlen (hgd : o.guard = none) (mo : Operand) (ho : o.op = Op.call { callee := Callee.builtin Builtin.len, args := #[mo], argTypes := #[T] }) (hmo : a.eval mo = .map (some b)) (h : VM w b m c) (hT : Try.prog.underlying T = some (.map 3 E)) {L : List Int} (hL : L.Pairwise (· < ·)) (hm : ∀ x, x ∈ L ↔ wfI x ∧ (m x).isSome = true)
    (hK : wpList Try.prog ops Q r (a.put o.dst (.int .i64 (L.length : Nat))) w) : wpList Try.prog ops Q (o :: r) a w := by
  obtain ⟨D, h1, h2⟩ := VM.size h hL hm
  exact wpList_len_own w hgd mo T ho 3 E hT RV b c D hmo h1 (by rw [h2]; exact hK)
/-- What is told of the map that is ranged over. -/
def Fits (D : DataW Value) (m : Int → Option Value) : Prop := ∀ k, wfI k → Maps.has D (kl k) = (m k).isSome ∧ ∀ v, m k = some v → ∀ z, D.atKey (kl k) z = .held v
theorem wpL_range (hgd : o.guard = none) (mo : Operand) (ho : o.op = Op.range T mo) (hmo : a.eval mo = .map (some b)) (h : VM w b m c) (hT : Try.prog.underlying T = some (.map 3 E))
    (hK : ∀ w' (D : DataW Value), Fits D m → w'.ranges Try.prog 3 RV b w.heap.size c D (Maps.has D) (Maps.size D) → w.grownBy w' none → w'.heap.size = w.heap.size + 1 → wpList Try.prog ops Q r (a.put o.dst (.pointer (some ⟨w.heap.size, 0, none⟩))) w') : wpList Try.prog ops Q (o :: r) a w := by
  obtain ⟨D, h1, h2⟩ := h
  exact wpList_range_own w hgd mo T ho 3 E kyd hT RV b c D hmo h1 fun w' r1 r2 r3 => hK w' D h2 r1 r2 r3
theorem wpL_next {D : DataW Value} {left : Lit → Bool} {cnt rr : Nat} (hgd : o.guard = none) (it : Operand) (ho : o.op = Op.next it false) (hit : a.eval it = .pointer (some ⟨rr, 0, none⟩)) (hD : Fits D m) (h : w.ranges Try.prog 3 RV b rr c D left cnt)
    (hDone : cnt = 0 → (∀ k, left k = false) → wpList Try.prog ops Q r (a.put o.dst (.tuple #[.bool false])) w)
    (hMore : ∀ (x : Int) (v : Value) (w' : World) (cnt' : Nat), wfI x → left (kl x) = true → m x = some v → w'.ranges Try.prog 3 RV b rr c D (fun z => left z && !z.sameKey (kl x)) cnt' → cnt' < cnt → w.grownBy w' (some rr) → w'.heap.size = w.heap.size →
      (Instr.entry (.pointer (some ⟨rr, 0, none⟩))).run Try.prog w' = .ok (.tuple #[.int .i64 x, v]) w' → wpList Try.prog ops Q r (a.put o.dst (.tuple #[.bool true, .int .i64 x, v])) w') : wpList Try.prog ops Q (o :: r) a w := by
  refine wpList_next_ranges w hgd it ho 3 kyd RV (Value.int .i64) (fun v : Value => v) (fun key kl hk => by obtain ⟨x, hx, _⟩ := Maps.keyOf_i64 Try.underlying3 hk; exact ⟨x, hx⟩) (fun v y hv => ⟨v, rfl⟩) b rr c D left cnt hit h hDone ?_
  intro x v kl' y w' cnt' hk hl hv hat hr hlt hg hs he
  obtain ⟨x', ex, rfl, hw⟩ := Maps.keyOf_i64 Try.underlying3 hk
  have ex' : x = x' := by injection ex
  subst ex'
  have hy : y = (.held v, []) := by simpa [RV] using hv.symm
  subst hy
  refine hMore x v w' cnt' hw hl ?_ hr hlt hg hs he
  obtain ⟨q1, q2⟩ := hD x hw
  cases hm : m x with
  | some u =>
    have a1 := q2 u hm (.held undef)
    have a2 : D.atKey (kl x) (.held undef) = .held v := hat _
    rw [a1] at a2
    have a2 := DataW.held.inj a2
    rw [a2]
  | none =>
    rw [hm] at q1
    have a1 := Maps.atKey_of_not_has q1 (.held (Value.bool true))
    have a2 := Maps.atKey_of_not_has q1 (.held (Value.bool false))
    have b1 : D.atKey (kl x) (.held (Value.bool true)) = .held v := hat _
    have b2 : D.atKey (kl x) (.held (Value.bool false)) = .held v := hat _
    rw [a1] at b1
    rw [a2] at b2
    have b1 := DataW.held.inj b1
    have b2 := DataW.held.inj b2
    rw [← b1] at b2
    cases b2
end
end TMp
end Go.Proofs.Ytbcjnckejkjfeaa
namespace Go.Proofs.Ytbcjnckejkjfeaa
set_option linter.unusedVariables false
set_option linter.unusedSimpArgs false
open Go.RowKit Go.NP
namespace TrI
open TrP TrW TrC TrA TrF TrG TrX TrY TrK THg TCt QVl QVm TMp TrE
theorem Rep.frame4 {m m' : M} : ∀ {t : Tr} {u : Int}, (∀ i ∈ t.all, (m' i).u = (m i).u ∧ (m' i).n = (m i).n ∧ (m' i).l = (m i).l ∧ (m' i).r = (m i).r) → Rep m u t → Rep m' u t
  | .leaf i, u, he, h => by
    have := he i (List.mem_singleton.2 rfl)
    unfold Rep at *
    rw [this.1, this.2.1]; exact h
  | .node i l r, u, he, h => by
    have h0 := he i (List.mem_cons_self ..)
    unfold Rep at *
    rw [h0.1, h0.2.1, h0.2.2.1, h0.2.2.2]
    exact ⟨h.1, h.2.1, h.2.2.1, h.2.2.2.1, Rep.frame4 (fun j hj => he j (List.mem_cons_of_mem _ (List.mem_append_left _ hj))) h.2.2.2.2.1, Rep.frame4 (fun j hj => he j (List.mem_cons_of_mem _ (List.mem_append_right _ hj))) h.2.2.2.2.2⟩
theorem Fit.frameL {m m' : M} : ∀ {t : Tr}, (∀ i ∈ t.all, (m' i).fat = (m i).fat ∧ (m' i).h = (m i).h) → (∀ i ∈ t.lv, holds (m' i).fat (m' i).b = true) → Fit m t → Fit m' t
  | .leaf i, he, hb, h => by
    have := he i (List.mem_singleton.2 rfl)
    exact ⟨this.2.trans h.1, hb i (List.mem_singleton.2 rfl)⟩
  | .node i l r, he, hb, h => by
    have h0 := he i (List.mem_cons_self ..)
    have hl := he l.ix (List.mem_cons_of_mem _ (List.mem_append_left _ l.ix_all))
    have hr := he r.ix (List.mem_cons_of_mem _ (List.mem_append_right _ r.ix_all))
    unfold Fit at *
    rw [h0.1, h0.2, hl.1, hl.2, hr.1, hr.2]
    exact ⟨h.1, h.2.1, Fit.frameL (fun j hj => he j (List.mem_cons_of_mem _ (List.mem_append_left _ hj))) (fun j hj => hb j (List.mem_append_left _ hj)) h.2.2.1, Fit.frameL (fun j hj => he j (List.mem_cons_of_mem _ (List.mem_append_right _ hj))) (fun j hj => hb j (List.mem_append_right _ hj)) h.2.2.2⟩
theorem Fit.leafs {m : M} : ∀ {t : Tr}, Fit m t → ∀ i ∈ t.lv, (m i).h = 0 ∧ holds (m i).fat (m i).b = true
  | .leaf i, h, j, hj => by obtain rfl := List.mem_singleton.1 hj; exact h
  | .node i l r, h, j, hj => by
    rcases List.mem_append.1 hj with hj | hj
    · exact Fit.leafs h.2.2.1 j hj
    · exact Fit.leafs h.2.2.2 j hj
theorem Shape.frame {m m' : M} {t : Int} {al lv : List Int} (h : Shape m t al lv) (he : ∀ i ∈ al, m' i = m i) : Shape m' t al lv := by
  rcases h with h | ⟨s, h1, h2, h3, h4, h5, h6⟩
  · exact .inl h
  · exact .inr ⟨s, Rep.frame (fun i hi => he i (h5.mem_iff.1 hi)) h1, Fit.keep h2 (fun i hi => he i (h5.mem_iff.1 hi)), h3, h4, h5, h6⟩
/-- A leaf has another bound, one that its fat bound holds. -/
theorem Shape.setB {m : M} {t a : Int} {al lv : List Int} {b : Bd} (h : Shape m t al lv) (ha : holds (m a).fat b = true) : Shape (st m a { m a with b := b }) t al lv := by
  rcases h with h | ⟨s, h1, h2, h3, h4, h5, h6⟩
  · exact .inl h
  · have e : ∀ i, ((st m a { m a with b := b }) i).u = (m i).u ∧ ((st m a { m a with b := b }) i).n = (m i).n ∧ ((st m a { m a with b := b }) i).l = (m i).l ∧ ((st m a { m a with b := b }) i).r = (m i).r ∧ ((st m a { m a with b := b }) i).fat = (m i).fat ∧ ((st m a { m a with b := b }) i).h = (m i).h := fun i => by
      by_cases q : i = a
      · subst q; rw [st_at]; exact ⟨rfl, rfl, rfl, rfl, rfl, rfl⟩
      · rw [st_ne q]; exact ⟨rfl, rfl, rfl, rfl, rfl, rfl⟩
    refine .inr ⟨s, Rep.frame4 (fun i _ => ⟨(e i).1, (e i).2.1, (e i).2.2.1, (e i).2.2.2.1⟩) h1, Fit.frameL (fun i _ => ⟨(e i).2.2.2.2.1, (e i).2.2.2.2.2⟩) (fun i hi => ?_) h2, h3, h4, h5, h6⟩
    by_cases q : i = a
    · subst q; rw [st_at]; exact ha
    · rw [st_ne q]; exact (Fit.leafs h2 i hi).2
theorem Shape.leafs {m : M} {t : Int} {al lv : List Int} (h : Shape m t al lv) : ∀ i ∈ lv, i ∈ al ∧ 1 ≤ (m i).n ∧ (m i).h = 0 ∧ holds (m i).fat (m i).b = true := fun i hi => by
  rcases h with ⟨_, _, rfl⟩ | ⟨s, h1, h2, h3, h4, h5, h6⟩
  · cases hi
  · have hs := h6.mem_iff.2 hi
    exact ⟨h5.mem_iff.1 (s.lv_all i hs), rep_n h1 i hs, Fit.leafs h2 i hs⟩
def ent (m : M) (i : Int) : En := ⟨(m i).n, (m i).b, (m i).fat⟩
/-- A tree in memory, its entries. -/
structure TI0 (w : World) (p : Nat) (mg : Int) (L : List En) (K : Nat) (T : Tn) (F al lv : List Int) (b c : Nat) (pl : Int → Option Int) : Prop where
  ts : TS w T F al lv b c pl K
  p_ : T.p = p
  mg_ : T.mg = mg
  mg0 : 0 ≤ mg ∧ mg ≤ 1048576
  perm : (lv.map (ent T.m)).Perm L
  rise : Rise L
  pls : ∀ n i, pl n = some i ↔ i ∈ lv ∧ (T.m i).n = n
  rng : ∀ e ∈ L, 1 ≤ e.n ∧ e.n ≤ 4096
  cK : c ≤ K
def TI (w : World) (p : Nat) (mg : Int) (L : List En) (S : Nat → Prop) (K : Nat) : Prop := ∃ T F al lv b c pl, TI0 w p mg L K T F al lv b c pl ∧ S = own T b
section
variable {w : World} {p K : Nat} {mg : Int} {L : List En} {T : Tn} {F al lv : List Int} {b c : Nat} {pl : Int → Option Int}
theorem TI0.frame {w' : World} (h : TI0 w p mg L K T F al lv b c pl) (hf : ∀ k, own T b k → w'.heap[k]? = w.heap[k]?) : TI0 w' p mg L K T F al lv b c pl :=
  ⟨⟨h.ts.tx.frame hf, h.ts.sh, h.ts.nd, h.ts.rng, h.ts.n1, h.ts.n2, h.ts.n3⟩, h.p_, h.mg_, h.mg0, h.perm, h.rise, h.pls, h.rng, h.cK⟩
theorem TI0.step {w' : World} (h : TI0 w p mg L K T F al lv b c pl) (hS : Below w.heap.size w w') : TI0 w' p mg L K T F al lv b c pl := h.frame fun k hk => hS.block k (h.ts.tx.lt k hk)
theorem TI0.mono {K' : Nat} (h : TI0 w p mg L K T F al lv b c pl) (hK : K ≤ K') : TI0 w p mg L K' T F al lv b c pl :=
  ⟨⟨h.ts.tx, h.ts.sh, h.ts.nd, h.ts.rng, by have := h.ts.n1; omega, by have := h.ts.n2; omega, by have := h.ts.n3; omega⟩, h.p_, h.mg_, h.mg0, h.perm, h.rise, h.pls, h.rng, by have := h.cK; omega⟩
/-- A number is there, if and only if the map leads to its leaf. -/
theorem TI0.look_in (h : TI0 w p mg L K T F al lv b c pl) {n : Int} (hn : isIn L n = true) : ∃ a : Nat, pl n = some (a : Int) ∧ (a : Int) ∈ lv ∧ (T.m a).n = n ∧ a < T.N ∧ get L n = some (ent T.m a) := by
  obtain ⟨e, he, hen⟩ := isIn_iff.1 hn
  obtain ⟨i, hi, hie⟩ := List.mem_map.1 (h.perm.mem_iff.2 he)
  have hni : (T.m i).n = n := by rw [← hen, ← hie]; rfl
  have hr := h.ts.rng i (List.mem_append_left _ (Shape.leafs h.ts.sh i hi).1)
  obtain ⟨a, rfl⟩ : ∃ a : Nat, i = a := ⟨i.toNat, by omega⟩
  exact ⟨a, (h.pls n a).2 ⟨hi, hni⟩, hi, hni, by omega, by rw [hie]; exact get_of h.rise he hen⟩
theorem TI0.look_out (h : TI0 w p mg L K T F al lv b c pl) {n : Int} (hn : isIn L n = false) : pl n = none := by
  cases hp : pl n with
  | none => rfl
  | some i =>
    obtain ⟨hi, hni⟩ := (h.pls n i).1 hp
    have := h.perm.mem_iff.1 (List.mem_map.2 ⟨i, hi, rfl⟩)
    exact absurd hni (not_in.1 hn _ this)
theorem TI0.mem (h : TI0 w p mg L K T F al lv b c pl) {i : Int} (hi : i ∈ lv) : ent T.m i ∈ L := h.perm.mem_iff.1 (List.mem_map.2 ⟨i, hi, rfl⟩)
theorem TI0.ok (h : TI0 w p mg L K T F al lv b c pl) {e : En} (he : e ∈ L) : e.b.ok ∧ e.fat.ok ∧ holds e.fat e.b = true := by
  obtain ⟨i, hi, rfl⟩ := List.mem_map.1 (h.perm.mem_iff.2 he)
  have := (Shape.leafs h.ts.sh i hi).2.2.2
  exact ⟨(holds_iff.1 this).2.1, (holds_iff.1 this).1, this⟩
theorem TI0.lt (h : TI0 w p mg L K T F al lv b c pl) : p < w.heap.size := by have := h.ts.tx.pLt; rw [h.p_] at this; exact this
end
theorem TI.step {w w' : World} {p K : Nat} {mg : Int} {L : List En} {S : Nat → Prop} (h : TI w p mg L S K) (hS : Below w.heap.size w w') : TI w' p mg L S K := by
  obtain ⟨T, F, al, lv, b, c, pl, h, rfl⟩ := h
  exact ⟨T, F, al, lv, b, c, pl, h.step hS, rfl⟩
theorem TI.over {w w' : World} {p K : Nat} {mg : Int} {L : List En} {S S' : Nat → Prop} (h : TI w p mg L S K) (hf : Fr w w' S') (hd : ∀ k, S k → ¬ S' k) : TI w' p mg L S K := by
  obtain ⟨T, F, al, lv, b, c, pl, h, rfl⟩ := h
  exact ⟨T, F, al, lv, b, c, pl, h.frame fun k hk => hf.block k (h.ts.tx.lt k hk) (hd k hk), rfl⟩
theorem TI.mono {w : World} {p K K' : Nat} {mg : Int} {L : List En} {S : Nat → Prop} (h : TI w p mg L S K) (hK : K ≤ K') : TI w p mg L S K' := by
  obtain ⟨T, F, al, lv, b, c, pl, h, rfl⟩ := h
  exact ⟨T, F, al, lv, b, c, pl, h.mono hK, rfl⟩
theorem TI.lt {w : World} {p K : Nat} {mg : Int} {L : List En} {S : Nat → Prop} (h : TI w p mg L S K) : ∀ k, S k → k < w.heap.size := by
  obtain ⟨T, F, al, lv, b, c, pl, h, rfl⟩ := h
  exact h.ts.tx.lt
theorem TI.rise {w : World} {p K : Nat} {mg : Int} {L : List En} {S : Nat → Prop} (h : TI w p mg L S K) : Rise L := by
  obtain ⟨T, F, al, lv, b, c, pl, h, rfl⟩ := h
  exact h.rise
theorem TI.mg0 {w : World} {p K : Nat} {mg : Int} {L : List En} {S : Nat → Prop} (h : TI w p mg L S K) : 0 ≤ mg ∧ mg ≤ 1048576 := by
  obtain ⟨T, F, al, lv, b, c, pl, h, rfl⟩ := h
  exact h.mg0
theorem TI.ok {w : World} {p K : Nat} {mg : Int} {L : List En} {S : Nat → Prop} (h : TI w p mg L S K) : ∀ e ∈ L, (1 ≤ e.n ∧ e.n ≤ 4096) ∧ e.b.ok ∧ e.fat.ok ∧ holds e.fat e.b = true := by
  obtain ⟨T, F, al, lv, b, c, pl, h, rfl⟩ := h
  exact fun e he => ⟨h.rng e he, h.ok he⟩
/-- What a call of a tree leaves. -/
structure Aft2 (w w' : World) (S S' : Nat → Prop) : Prop where
  fr : Fr w w' S
  ow : ∀ k, S' k → S k ∨ w.heap.size ≤ k
theorem Aft2.of_below {w w' : World} {S : Nat → Prop} (h : Below w.heap.size w w') : Aft2 w w' S S := ⟨Fr.of_below h, fun _ hk => .inl hk⟩
theorem Aft2.trans {w1 w2 w3 : World} {S S' S'' : Nat → Prop} (h : Aft2 w1 w2 S S') (k : Aft2 w2 w3 S' S'') : Aft2 w1 w3 S S'' :=
  ⟨h.fr.trans k.fr h.ow, fun j hj => (k.ow j hj).elim (h.ow j) fun hh => by right; have := h.fr.size; omega⟩
/-- What stands against a number and a bound. -/
def askS (n : Int) (x : Bd) : Int := if 1 ≤ n ∧ n ≤ 4096 then errIf x.ok else 2
end TrI
end Go.Proofs.Ytbcjnckejkjfeaa
namespace Go.Proofs.Ytbcjnckejkjfeaa
set_option linter.unusedVariables false
set_option linter.unusedSimpArgs false
open Go.RowKit Go.NP
namespace TAs
open TrP TrW TrI
theorem bcheckV (x : Bd) (w : World) : RetB Try.prog 12 #[.agg #[.int .i64 x.lo.x, .int .i64 x.lo.y, .int .i64 x.lo.z, .int .i64 x.hi.x, .int .i64 x.hi.y, .int .i64 x.hi.z]] w (.int .i64 (errIf x.ok)) := by
  by_cases h : x.ok
  · rw [errIf_pos h]; exact bcheck_ok x w h
  · rw [errIf_neg h]; exact bcheck_no x w h
set_option maxRecDepth 100000 in
set_option maxHeartbeats 2000000 in
theorem askedC {p : Nat} {n : Int} {x : Bd} (w : World) (hm : w.cell? ⟨p, 0, none⟩ = some (.bool true)) (hp : p < w.heap.size) : RetB Try.prog 27 #[.pointer (some ⟨p, 0, none⟩), .int .i64 n, .agg #[.int .i64 x.lo.x, .int .i64 x.lo.y, .int .i64 x.lo.z, .int .i64 x.hi.x, .int .i64 x.hi.y, .int .i64 x.hi.z]] w (.int .i64 (askS n x)) := by
  have hz : p < w.heap.size + 1 := by omega
  have hb : Below w.heap.size w (w.alloc (.cells #[.int .i64 x.lo.x, .int .i64 x.lo.y, .int .i64 x.lo.z, .int .i64 x.hi.x, .int .i64 x.hi.y, .int .i64 x.hi.z] 35)) := (Below.refl _ _).alloc (Nat.le_refl _) _
  by_cases h1 : n < 1
  · have e : askS n x = 2 := by unfold askS; rw [if_neg (by omega)]
    have t1 : decide (n < 1) = true := decide_eq_true h1
    rw [e]
    unfold RetB
    go_enter Try.func27, Try.ntmps27
    go_wp2_with fail
    exact bodyPost_ret (v := .int .i64 2) (by simp [results, Try.results27, go_sem, *]) rfl ⟨rfl, hb⟩
  · by_cases h2 : 4096 < n
    · have e : askS n x = 2 := by unfold askS; rw [if_neg (by omega)]
      have t1 : decide (n < 1) = false := decide_eq_false h1
      have t2 : decide (4096 < n) = true := decide_eq_true h2
      rw [e]
      unfold RetB
      go_enter Try.func27, Try.ntmps27
      go_wp2_with fail
      exact bodyPost_ret (v := .int .i64 2) (by simp [results, Try.results27, go_sem, *]) rfl ⟨rfl, hb⟩
    · have e : askS n x = errIf x.ok := by unfold askS; rw [if_pos (by omega)]
      have t1 : decide (n < 1) = false := decide_eq_false h1
      have t2 : decide (4096 < n) = false := decide_eq_false h2
      rw [e]
      unfold RetB
      go_enter Try.func27, Try.ntmps27
      go_wp2_with fail
      refine (bcheckV x _).mono ?_
      rintro e w1 ⟨rfl, hS⟩
      go_wp2_with fail
      exact bodyPost_ret (v := .int .i64 (errIf x.ok)) (by simp [results, Try.results27, go_sem, *]) rfl ⟨rfl, hb.trans (hS.mono hb.size)⟩
set_option maxRecDepth 100000 in
set_option maxHeartbeats 2000000 in
theorem askedNil {n : Int} {x : Bd} (w : World) : RetB Try.prog 27 #[.pointer none, .int .i64 n, .agg #[.int .i64 x.lo.x, .int .i64 x.lo.y, .int .i64 x.lo.z, .int .i64 x.hi.x, .int .i64 x.hi.y, .int .i64 x.hi.z]] w (.int .i64 1) := by
  have hb : Below w.heap.size w (w.alloc (.cells #[.int .i64 x.lo.x, .int .i64 x.lo.y, .int .i64 x.lo.z, .int .i64 x.hi.x, .int .i64 x.hi.y, .int .i64 x.hi.z] 35)) := (Below.refl _ _).alloc (Nat.le_refl _) _
  unfold RetB
  go_enter Try.func27, Try.ntmps27
  go_wp2_with fail
  exact bodyPost_ret (v := .int .i64 1) (by simp [results, Try.results27, go_sem, *]) rfl ⟨rfl, hb⟩
set_option maxRecDepth 100000 in
set_option maxHeartbeats 2000000 in
theorem askedUn {p : Nat} {n : Int} {x : Bd} (w : World) (hm : w.cell? ⟨p, 0, none⟩ = some (.bool false)) (hp : p < w.heap.size) : RetB Try.prog 27 #[.pointer (some ⟨p, 0, none⟩), .int .i64 n, .agg #[.int .i64 x.lo.x, .int .i64 x.lo.y, .int .i64 x.lo.z, .int .i64 x.hi.x, .int .i64 x.hi.y, .int .i64 x.hi.z]] w (.int .i64 1) := by
  have hz : p < w.heap.size + 1 := by omega
  have hb : Below w.heap.size w (w.alloc (.cells #[.int .i64 x.lo.x, .int .i64 x.lo.y, .int .i64 x.lo.z, .int .i64 x.hi.x, .int .i64 x.hi.y, .int .i64 x.hi.z] 35)) := (Below.refl _ _).alloc (Nat.le_refl _) _
  unfold RetB
  go_enter Try.func27, Try.ntmps27
  go_wp2_with fail
  exact bodyPost_ret (v := .int .i64 1) (by simp [results, Try.results27, go_sem, *]) rfl ⟨rfl, hb⟩
end TAs
end Go.Proofs.Ytbcjnckejkjfeaa
namespace Go.Proofs.Ytbcjnckejkjfeaa
set_option linter.unusedVariables false
set_option linter.unusedSimpArgs false
open Go.RowKit Go.NP
namespace TPu
open TrP TrW TrC TrA TrF TrG TrX TrY TrK THg TCt QVl QVm TMp TrE TrI TAs
theorem cf39 (args : Array Value) (w1 : World) : (callFunc 39 args).run Try.prog w1 = .ok (.enter 39 args) w1 := enters Try.func39 (by kernel_rfl) (by kernel_rfl) args w1
theorem zI (w : World) : (zeroValue 3).run Try.prog w = .ok (.int .i64 0) w := by kernel_rfl
theorem wf_rng {n : Int} (h : 1 ≤ n ∧ n ≤ 4096) : wfI n := wfI_small (by omega) (by omega)
def updI (f : Int → Option Int) (n v : Int) : Int → Option Int := fun k => if k = n then some v else f k
theorem im_upd (f : Int → Option Int) (n v : Int) : updV (im f) n (.int .i64 v) = im (updI f n v) := by
  funext k; unfold updV im updI; split <;> rfl
theorem im_some (f : Int → Option Int) (n : Int) : (im f n).isSome = (f n).isSome := by unfold im; cases f n <;> rfl
theorem im_at {f : Int → Option Int} {n k : Int} (h : f n = some k) : (im f n).getD (.int .i64 0) = .int .i64 k := by unfold im; rw [h]; rfl
theorem im_no {f : Int → Option Int} {n : Int} (h : f n = none) : (im f n).getD (.int .i64 0) = .int .i64 0 := by unfold im; rw [h]; rfl
/-- What Put answers, and does. -/
def putE (L : List En) (n : Int) (x : Bd) : Int := if 1 ≤ n ∧ n ≤ 4096 then (if x.ok then (if isIn L n then 5 else 0) else 7) else 2
def putL (mg : Int) (L : List En) (n : Int) (x : Bd) : List En := if putE L n x = 0 then ins L ⟨n, x, grow x mg⟩ else L
theorem putE_ask {L : List En} {n : Int} {x : Bd} (h : askS n x ≠ 0) : putE L n x = askS n x := by
  unfold putE askS errIf at *
  split
  · rename_i h1; rw [if_pos h1] at h
    split
    · rename_i h2; rw [if_pos h2] at h; exact absurd rfl h
    · rfl
  · rfl
theorem askS_zero {n : Int} {x : Bd} (h : askS n x = 0) : (1 ≤ n ∧ n ≤ 4096) ∧ x.ok := by
  unfold askS errIf at h
  split at h
  · rename_i h1
    split at h
    · rename_i h2; exact ⟨h1, h2⟩
    · omega
  · omega
theorem mapK {w w' : World} {T : Tn} {F : List Int} {b c c' : Nat} {pl pl' : Int → Option Int} (h : TX w T F b c pl) (hv : VM w' b (im pl') c') (hm : w.mapTurned w' b) : TX w' T F b c' pl' := by
  have hb : ∀ k, k ≠ b → w'.heap[k]? = w.heap[k]? := fun k hk => Turned.block hm hk
  exact ⟨h.to.frame (hb _ fun e => h.bp e.symm) (hb _ fun e => h.bg e.symm), h.fr.block fun g hg _ => hb g (h.fp g hg).2.2, h.mp, hv, h.bp, h.bg, h.fp, h.cl⟩
set_option maxRecDepth 100000 in
set_option maxHeartbeats 4000000 in
theorem putErr {p : Nat} {n : Int} {x : Bd} (w : World) (hm : w.cell? ⟨p, 0, none⟩ = some (.bool true)) (hp : p < w.heap.size) (he : askS n x ≠ 0) : RetB Try.prog 19 #[.pointer (some ⟨p, 0, none⟩), .int .i64 n, .agg #[.int .i64 x.lo.x, .int .i64 x.lo.y, .int .i64 x.lo.z, .int .i64 x.hi.x, .int .i64 x.hi.y, .int .i64 x.hi.z]] w (.int .i64 (askS n x)) := by
  have hb : Below w.heap.size w (w.alloc (.cells #[.int .i64 x.lo.x, .int .i64 x.lo.y, .int .i64 x.lo.z, .int .i64 x.hi.x, .int .i64 x.hi.y, .int .i64 x.hi.z] 35)) := (Below.refl _ _).alloc (Nat.le_refl _) _
  have hm2 : (w.alloc (.cells #[.int .i64 x.lo.x, .int .i64 x.lo.y, .int .i64 x.lo.z, .int .i64 x.hi.x, .int .i64 x.hi.y, .int .i64 x.hi.z] 35)).cell? ⟨p, 0, none⟩ = some (.bool true) := by rw [(bcell hb).1 p 0 hp]; exact hm
  have hp2 : p < (w.alloc (.cells #[.int .i64 x.lo.x, .int .i64 x.lo.y, .int .i64 x.lo.z, .int .i64 x.hi.x, .int .i64 x.hi.y, .int .i64 x.hi.z] 35)).heap.size := by have := hb.size; omega
  have AS := Lib.hid (askedC (n := n) (x := x) _ hm2 hp2)
  obtain ⟨e, hee⟩ : ∃ e, askS n x = e := ⟨_, rfl⟩
  rw [hee] at he
  rw [hee] at AS ⊢
  have t1 : (e != 0) = true := by simpa using he
  unfold RetB
  go_enter Try.func19, Try.ntmps19
  go_wp2_with fail
  refine AS.out.mono ?_
  rintro e1 w1 ⟨rfl, hS⟩
  go_wp2_with fail
  exact bodyPost_ret (v := .int .i64 e) (by simp [results, Try.results19, go_sem, *]) rfl ⟨rfl, hb.trans (hS.mono hb.size)⟩
set_option maxRecDepth 100000 in
set_option maxHeartbeats 4000000 in
theorem putIn {p b c : Nat} {n : Int} {x : Bd} {pl : Int → Option Int} {a : Int} (w : World) (hm : w.cell? ⟨p, 0, none⟩ = some (.bool true)) (hp : p < w.heap.size) (h5 : w.cell? ⟨p, 5, none⟩ = some (.map (some b))) (hv : VM w b (im pl) c) (he : askS n x = 0) (hn : pl n = some a) : RetB Try.prog 19 #[.pointer (some ⟨p, 0, none⟩), .int .i64 n, .agg #[.int .i64 x.lo.x, .int .i64 x.lo.y, .int .i64 x.lo.z, .int .i64 x.hi.x, .int .i64 x.hi.y, .int .i64 x.hi.z]] w (.int .i64 5) := by
  have hb : Below w.heap.size w (w.alloc (.cells #[.int .i64 x.lo.x, .int .i64 x.lo.y, .int .i64 x.lo.z, .int .i64 x.hi.x, .int .i64 x.hi.y, .int .i64 x.hi.z] 35)) := (Below.refl _ _).alloc (Nat.le_refl _) _
  have hm2 : (w.alloc (.cells #[.int .i64 x.lo.x, .int .i64 x.lo.y, .int .i64 x.lo.z, .int .i64 x.hi.x, .int .i64 x.hi.y, .int .i64 x.hi.z] 35)).cell? ⟨p, 0, none⟩ = some (.bool true) := by rw [(bcell hb).1 p 0 hp]; exact hm
  have hp2 : p < (w.alloc (.cells #[.int .i64 x.lo.x, .int .i64 x.lo.y, .int .i64 x.lo.z, .int .i64 x.hi.x, .int .i64 x.hi.y, .int .i64 x.hi.z] 35)).heap.size := by have := hb.size; omega
  have AS := Lib.hid (askedC (n := n) (x := x) _ hm2 hp2)
  rw [he] at AS
  have wf := wf_rng (askS_zero he).1
  unfold RetB
  go_enter Try.func19, Try.ntmps19
  go_wp2_with fail
  refine AS.out.mono ?_
  rintro e1 w1 ⟨rfl, hS⟩
  have hW := hb.trans (hS.mono hb.size)
  have c5 : w1.cell? ⟨p, 5, none⟩ = some (.map (some b)) := by rw [(bcell hW).1 p 5 hp]; exact h5
  have hv1 := hv.step hW
  have l1 := hv1.look_ok wf Try.underlying56 (zI w1)
  rw [im_some, im_at hn, hn] at l1
  simp only [Option.isSome_some] at l1
  have HW := Lib.hid hW
  clear hm h5 hv hS hb hm2 hp2 hW hv1
  have hp1 : p < w1.heap.size := by have := HW.out.size; omega
  go_wp2_with fail
  exact bodyPost_ret (v := .int .i64 5) (by simp [results, Try.results19, go_sem, *]) rfl ⟨rfl, HW.out⟩
set_option maxRecDepth 100000 in
set_option maxHeartbeats 4000000 in
theorem putNew {p K b c : Nat} {mg n : Int} {x : Bd} {L : List En} {T : Tn} {F al lv : List Int} {pl : Int → Option Int} (w : World) (h : TI0 w p mg L K T F al lv b c pl) (hK : K < 80000) (he : askS n x = 0) (hn : isIn L n = false) :
    Calls Try.prog 19 #[.pointer (some ⟨p, 0, none⟩), .int .i64 n, .agg #[.int .i64 x.lo.x, .int .i64 x.lo.y, .int .i64 x.lo.z, .int .i64 x.hi.x, .int .i64 x.hi.y, .int .i64 x.hi.z]] w fun e w' => e = .returned (.int .i64 0) ∧ ∃ S', TI w' p mg (ins L ⟨n, x, grow x mg⟩) S' (K + 4) ∧ Aft2 w w' (own T b) S' := by
  have hp := h.lt
  have hb : Below w.heap.size w (w.alloc (.cells #[.int .i64 x.lo.x, .int .i64 x.lo.y, .int .i64 x.lo.z, .int .i64 x.hi.x, .int .i64 x.hi.y, .int .i64 x.hi.z] 35)) := (Below.refl _ _).alloc (Nat.le_refl _) _
  have h1 := h.step hb
  have hm2 : (w.alloc (.cells #[.int .i64 x.lo.x, .int .i64 x.lo.y, .int .i64 x.lo.z, .int .i64 x.hi.x, .int .i64 x.hi.y, .int .i64 x.hi.z] 35)).cell? ⟨p, 0, none⟩ = some (.bool true) := by have := TO.madec h1.ts.tx.to; rw [h.p_] at this; exact this
  have hp2 := h1.lt
  have AS := Lib.hid (askedC (n := n) (x := x) _ hm2 hp2)
  rw [he] at AS
  have nr := askS_zero he
  have wf := wf_rng nr.1
  have hpl := h.look_out hn
  have hbx : Box (w.alloc (.cells #[.int .i64 x.lo.x, .int .i64 x.lo.y, .int .i64 x.lo.z, .int .i64 x.hi.x, .int .i64 x.hi.y, .int .i64 x.hi.z] 35)) w.heap.size [.int .i64 x.lo.x, .int .i64 x.lo.y, .int .i64 x.lo.z, .int .i64 x.hi.x, .int .i64 x.hi.y, .int .i64 x.hi.z] 35 := Box.new rfl
  have H0 := Lib.hid h
  clear h
  go_enter Try.func19, Try.ntmps19
  go_wp2_with fail
  refine AS.out.mono ?_
  rintro e1 w1 ⟨rfl, hS⟩
  have hW := hb.trans (hS.mono hb.size)
  obtain ⟨gx, hgx⟩ : ∃ g, w.heap.size = g := ⟨_, rfl⟩
  have hx1 := hbx.step hS
  have h2 := h1.step hS
  rw [hgx] at hx1
  rw [hgx]
  have c5 : w1.cell? ⟨p, 5, none⟩ = some (.map (some b)) := by have := TO.mpc h2.ts.tx.to; rw [h2.p_, h2.ts.tx.mp] at this; exact this
  have c1 : w1.cell? ⟨p, 1, none⟩ = some (.int .i64 mg) := by have := TO.mgc h2.ts.tx.to; rw [h2.p_, h2.mg_] at this; exact this
  have l1 := h2.ts.tx.vm.look_ok wf Try.underlying56 (zI w1)
  rw [im_some, im_no hpl, hpl] at l1
  simp only [Option.isSome_none] at l1
  have HW := Lib.hid hW; have H2 := Lib.hid h2; have HX := Lib.hid hx1
  have hp1 := h2.lt
  have lx := hx1.lt
  clear hm2 hb hp2 hW h1 h2 hbx hx1 hS AS
  go_wp2_with fail
  refine wp_region_ph [(10, .free [])] (by kernel_rfl) (by kernel_rfl) ?_
  refine Ph.belowd ?_
  simp only [List.drop_succ_cons, List.drop_zero, List.take_succ_cons, List.take_zero, Nat.reduceSub, Nat.sub_zero]
  iterate 1 (refine SeqO.val (v := ?_) (by rfl) (by rfl) (fun w1 hS => ?_) ?_; rotate_left; (· obtain ⟨hc, hcf⟩ := bcell hS; go_simp; try with_reducible rfl); simp only [Act.put, List.setIfInBounds_toArray, List.set_cons_zero, List.set_cons_succ])
  refine SeqO.row (l := [.int .i64 x.lo.x, .int .i64 x.lo.y, .int .i64 x.lo.z, .int .i64 x.hi.x, .int .i64 x.hi.y, .int .i64 x.hi.z]) (by rfl) (by rfl) HX.out Try.underlying35 (by rfl) (by kernel_rfl) (by rfl) (by rfl) ?_
  simp only [Act.put, List.setIfInBounds_toArray, List.set_cons_zero, List.set_cons_succ]
  iterate 4 (refine SeqO.val (v := ?_) (by rfl) (by rfl) (fun w1 hS => ?_) ?_; rotate_left; (· obtain ⟨hc, hcf⟩ := bcell hS; go_simp; try with_reducible rfl); simp only [Act.put, List.setIfInBounds_toArray, List.set_cons_zero, List.set_cons_succ])
  refine SeqO.callv (by rfl) (by rfl) (by rfl) cf39 (by simp [Act.eval]) (fun w1 hS => growC x mg w1) ?_
  simp only [Act.put, List.setIfInBounds_toArray, List.set_cons_zero, List.set_cons_succ]
  refine SeqO.row (l := [.int .i64 x.lo.x, .int .i64 x.lo.y, .int .i64 x.lo.z, .int .i64 x.hi.x, .int .i64 x.hi.y, .int .i64 x.hi.z]) (by rfl) (by rfl) HX.out Try.underlying35 (by rfl) (by kernel_rfl) (by rfl) (by rfl) ?_
  simp only [Act.put, List.setIfInBounds_toArray, List.set_cons_zero, List.set_cons_succ]
  iterate 2 (refine SeqO.val (v := ?_) (by rfl) (by rfl) (fun w1 hS => ?_) ?_; rotate_left; (· obtain ⟨hc, hcf⟩ := bcell hS; go_simp; try with_reducible rfl); simp only [Act.put, List.setIfInBounds_toArray, List.set_cons_zero, List.set_cons_succ])
  refine SeqO.nil0 fun w2 hS2 => ?_
  refine Ph.last ?_
  simp only [List.drop_succ_cons, List.drop_zero, List.take_succ_cons, List.take_zero, Nat.reduceSub, Nat.sub_zero]
  obtain ⟨nd, hnd⟩ : ∃ z : Nd, (⟨grow x mg, x, n, -1, -1, -1, 0⟩ : Nd) = z := ⟨_, rfl⟩
  have H3 := Lib.hid (H2.out.step hS2)
  have HW2 := Lib.hid (HW.out.trans (hS2.mono HW.out.size))
  clear c5 c1 l1 hp1 lx H2 HX HW hS2
  go_wp2_with fail
  have hFS := freshC (x := nd) w2 H3.out.ts.tx (fun k hk => H3.out.ts.rng k (List.mem_append_right _ hk)) (by have := H3.out.ts.n2; omega) (fun _ => by have := H3.out.ts.n1; omega)
  rw [← hnd, H3.out.p_] at hFS
  refine hFS.mono ?_
  clear hFS
  rw [hnd]
  rintro e w3 ⟨a, T3, F3, rfl, hF⟩
  have hpT : T3.p = p := hF.p.trans H3.out.p_
  have c5 : w3.cell? ⟨p, 5, none⟩ = some (.map (some b)) := by have := TO.mpc hF.tx.to; rw [hpT, hF.tx.mp] at this; exact this
  have hp1 : p < w3.heap.size := by have := hF.tx.pLt; rw [hpT] at this; exact this
  have hvm := hF.tx.vm
  have hcm : c < maxLen := by have := H3.out.cK; unfold maxLen; omega
  have HF := Lib.hid hF
  clear hF
  go_wp2_with (refine wpL_put (x := .tmp 43) (y := .tmp 44) (mo := .tmp 42) (v := .int .i64 (a : Int)) (by rfl) (by rfl) (by rfl) (by rfl) (by rfl) hvm wf hcm Try.underlying56 ?_; intro w4 hv4 ht4; have HV4 := Lib.hid hv4; have HT4 := Lib.hid ht4; clear hv4 ht4 c5 hp1)
  have hF := HF.out
  have h0 := H3.out
  have fo := fresh_out h0.ts.nd h0.ts.rng hF.how
  have hal : ∀ i ∈ al, i ≠ (a : Int) := fun i hi e => fo.1 (e ▸ hi)
  have hlal : ∀ i ∈ lv, i ∈ al := fun i hi => (Shape.leafs h0.ts.sh i hi).1
  have hX4 : TX w4 T3 F3 b (c + 1) (updI pl n a) := by
    refine mapK hF.tx ?_ HT4.out
    have := HV4.out
    rw [im_upd, im_some, hpl] at this
    exact this
  have hFF : ∀ i ∈ F3, i ∈ F := fun i hi => by
    rcases hF.how with q | q
    · rw [q.1]; exact List.mem_append_left _ hi
    · rw [q.2.1] at hi; cases hi
  obtain ⟨n1, n2, n3⟩ := List.nodup_append.1 h0.ts.nd
  have hF3 : F3.Nodup ∧ (a : Int) ∉ F3 := by
    rcases hF.how with q | q
    · rw [q.1] at n2
      obtain ⟨m1, m2, m3⟩ := List.nodup_append.1 n2
      exact ⟨m1, fun hm => m3 _ hm _ (List.mem_singleton.2 rfl) rfl⟩
    · rw [q.2.1]; exact ⟨List.nodup_nil, fun hm => by cases hm⟩
  have hTS : TS w4 T3 F3 al lv b (c + 1) (updI pl n a) (K + 2) := by
    refine ⟨hX4, ?_, List.nodup_append.2 ⟨n1, hF3.1, fun i hi j hj => n3 i hi j (hFF j hj)⟩, fun i hi => ?_, ?_, ?_, ?_⟩
    · rw [hF.m, hF.top]
      exact Shape.frame h0.ts.sh fun i hi => st_ne (hal i hi)
    · have : i ∈ al ++ F := by
        rcases List.mem_append.1 hi with hi | hi
        · exact List.mem_append_left _ hi
        · exact List.mem_append_right _ (hFF i hi)
      have := h0.ts.rng i this
      omega
    · have := h0.ts.n1; omega
    · have := h0.ts.n2
      rcases hF.how with q | q
      · rw [q.1, List.length_append] at this; omega
      · rw [q.2.1]; exact Nat.zero_le _
    · have := h0.ts.n3; omega
  have hma : T3.m a = nd := by rw [hF.m, st_at]
  have hmo : ∀ i ∈ lv, T3.m i = T.m i := fun i hi => by rw [hF.m, st_ne (hal i (hlal i hi))]
  have hleaf : (T3.m a).u = -1 ∧ 1 ≤ (T3.m a).n ∧ (T3.m a).h = 0 ∧ holds (T3.m a).fat (T3.m a).b = true := by
    rw [hma, ← hnd]
    exact ⟨rfl, nr.1.1, rfl, holds_grow nr.2 mg⟩
  have hHG := hangC (T := T3) w4 hTS (by omega) hF.lt hF3.2 fo.1 hleaf
  rw [hF.p, h0.p_] at hHG
  refine hHG.mono ?_
  clear hHG
  rintro e w5 ⟨rfl, T5, F5, al5, hT5, hA5⟩
  have FIN := Lib.hid (show ∃ S', TI w5 p mg (ins L ⟨n, x, grow x mg⟩) S' (K + 4) ∧ Aft2 w w5 (own T b) S' from by
    have he : ∀ i ∈ (a : Int) :: lv, ent T5.m i = ent T3.m i := fun i hi => by
      obtain ⟨q1, q2, q3⟩ := hA5.ent i hi
      unfold ent; rw [q1, q2, q3]
    have hea : ent T3.m a = ⟨n, x, grow x mg⟩ := by unfold ent; rw [hma, ← hnd]
    have heo : ∀ i ∈ lv, ent T3.m i = ent T.m i := fun i hi => by unfold ent; rw [hmo i hi]
    refine ⟨own T5 b, ⟨T5, F5, al5, (a : Int) :: lv, b, c + 1, updI pl n a, ⟨hT5, hA5.p.trans (hF.p.trans h0.p_), hA5.mg.trans (hF.mg.trans h0.mg_), h0.mg0, ?_, ins_rise h0.rise hn, fun k i => ?_, fun e he => ?_, ?_⟩, rfl⟩, ?_⟩
    · rw [List.map_congr_left he, List.map_cons, hea, List.map_congr_left heo]
      exact (List.Perm.cons _ h0.perm).trans (ins_perm _ _).symm
    · have hn5 : ∀ i ∈ (a : Int) :: lv, (T5.m i).n = (T3.m i).n := fun i hi => (hA5.ent i hi).1
      have hna : (T3.m a).n = n := by rw [hma, ← hnd]
      unfold updI
      by_cases ek : k = n
      · subst ek
        rw [if_pos rfl]
        constructor
        · intro q
          injection q with q
          subst q
          exact ⟨List.mem_cons_self .., by rw [hn5 _ (List.mem_cons_self ..), hna]⟩
        · rintro ⟨hi, hk⟩
          rcases List.mem_cons.1 hi with q | hi
          · rw [q]
          · rw [hn5 _ (List.mem_cons_of_mem _ hi), hmo i hi] at hk
            have := (h0.pls k i).2 ⟨hi, hk⟩
            rw [hpl] at this; cases this
      · rw [if_neg ek, h0.pls k i]
        constructor
        · rintro ⟨hi, hk⟩
          exact ⟨List.mem_cons_of_mem _ hi, by rw [hn5 _ (List.mem_cons_of_mem _ hi), hmo i hi]; exact hk⟩
        · rintro ⟨hi, hk⟩
          rcases List.mem_cons.1 hi with q | hi
          · rw [q, hn5 _ (List.mem_cons_self ..), hna] at hk
            exact absurd hk.symm ek
          · rw [hn5 _ (List.mem_cons_of_mem _ hi), hmo i hi] at hk
            exact ⟨hi, hk⟩
    · rcases List.mem_cons.1 ((ins_perm _ _).mem_iff.1 he) with q | he
      · rw [q]; exact nr.1
      · exact h0.rng e he
    · have := h0.cK; omega
    · have o3 : ∀ k, own T3 b k → own T b k ∨ w.heap.size ≤ k := fun k hk => (hF.ow k hk).imp id fun q => by have := HW2.out.size; omega
      have f3 : Fr w w3 (own T b) := (Fr.of_below (S := own T b) HW2.out).trans hF.fr fun j hj => .inl hj
      have f4 : Fr w w4 (own T b) := f3.trans (S' := fun k => k = b) ⟨HT4.out.grown.os, HT4.out.grown.tape, HT4.out.grown.output, HT4.out.grown.size, fun k hk hb => Turned.block HT4.out hb⟩ fun j hj => .inl (.inr (.inr (.inr hj)))
      refine ⟨f4.trans hA5.fr o3, fun k hk => ?_⟩
      rcases hA5.ow k hk with q | q
      · exact o3 k q
      · right; have := f4.size; omega)
  clear hT5 hA5 hTS hX4 hF h0 fo hleaf hma hmo hal hlal hFF hF3 HV4 HT4 HF
  go_wp2_with fail
  exact bodyPost_ret (v := .int .i64 0) (by simp [results, Try.results19, go_sem, *]) rfl ⟨rfl, FIN.out⟩
/-- A bound put. -/
theorem putC {p K : Nat} {mg n : Int} {x : Bd} {L : List En} {S : Nat → Prop} (w : World) (h : TI w p mg L S K) (hK : K < 80000) :
    Calls Try.prog 19 #[.pointer (some ⟨p, 0, none⟩), .int .i64 n, .agg #[.int .i64 x.lo.x, .int .i64 x.lo.y, .int .i64 x.lo.z, .int .i64 x.hi.x, .int .i64 x.hi.y, .int .i64 x.hi.z]] w fun e w' => e = .returned (.int .i64 (putE L n x)) ∧ ∃ S', TI w' p mg (putL mg L n x) S' (K + 4) ∧ Aft2 w w' S S' := by
  obtain ⟨T, F, al, lv, b, c, pl, h, rfl⟩ := h
  have hm : w.cell? ⟨p, 0, none⟩ = some (.bool true) := by have := TO.madec h.ts.tx.to; rw [h.p_] at this; exact this
  by_cases he : askS n x = 0
  · have nr := askS_zero he
    cases hn : isIn L n with
    | true =>
      have e5 : putE L n x = 5 := by unfold putE; rw [if_pos nr.1, if_pos nr.2, if_pos hn]
      have e6 : putL mg L n x = L := by unfold putL; rw [if_neg (by rw [e5]; decide)]
      rw [e5, e6]
      obtain ⟨a, ha, _⟩ := h.look_in hn
      have h5 : w.cell? ⟨p, 5, none⟩ = some (.map (some b)) := by have := TO.mpc h.ts.tx.to; rw [h.p_, h.ts.tx.mp] at this; exact this
      refine (putIn w hm h.lt h5 h.ts.tx.vm he ha).mono ?_
      rintro e w1 ⟨rfl, hS⟩
      exact ⟨rfl, own T b, ⟨T, F, al, lv, b, c, pl, (h.step hS).mono (by omega), rfl⟩, Aft2.of_below hS⟩
    | false =>
      have e5 : putE L n x = 0 := by unfold putE; rw [if_pos nr.1, if_pos nr.2, hn]; rfl
      have e6 : putL mg L n x = ins L ⟨n, x, grow x mg⟩ := by unfold putL; rw [if_pos e5]
      rw [e5, e6]
      exact putNew w h hK he hn
  · have e5 := putE_ask (L := L) he
    have e6 : putL mg L n x = L := by unfold putL; rw [if_neg (by rw [e5]; exact he)]
    rw [e5, e6]
    refine (putErr w hm h.lt he).mono ?_
    rintro e w1 ⟨rfl, hS⟩
    exact ⟨rfl, own T b, ⟨T, F, al, lv, b, c, pl, (h.step hS).mono (by omega), rfl⟩, Aft2.of_below hS⟩
end TPu
end Go.Proofs.Ytbcjnckejkjfeaa
namespace Go.Proofs.Ytbcjnckejkjfeaa
set_option linter.unusedVariables false
set_option linter.unusedSimpArgs false
open Go.RowKit Go.NP
namespace TDr
open TrP TrW TrC TrA TrF TrG TrX TrY TrK THg TCt QVl QVm TMp TrE TrI TAs TPu
def delI (f : Int → Option Int) (n : Int) : Int → Option Int := fun k => if k = n then none else f k
theorem im_del (f : Int → Option Int) (n : Int) : delV (im f) n = im (delI f n) := by
  funext k; unfold delV im delI; split <;> rfl
/-- What Drop answers, and does. -/
def dropE (L : List En) (n : Int) : Int := if 1 ≤ n ∧ n ≤ 4096 then (if isIn L n then 0 else 4) else 2
def dropL (L : List En) (n : Int) : List En := if dropE L n = 0 then del L n else L
theorem ask0 (n : Int) : askS n bzero = if 1 ≤ n ∧ n ≤ 4096 then 0 else 2 := by unfold askS; rw [errIf_pos (by decide : bzero.ok)]
theorem less_perm {p K b c a : Nat} {mg n : Int} {L : List En} {T : Tn} {F al lv lv' : List Int} {pl : Int → Option Int} {w : World} (h : TI0 w p mg L K T F al lv b c pl) (hp : ((a : Int) :: lv').Perm lv) (hn : (T.m a).n = n) (hi : isIn L n = true) : (lv'.map (ent T.m)).Perm (del L n) := by
  obtain ⟨e, he, hen, hd⟩ := del_perm h.rise hi
  have h1 : (ent T.m a :: lv'.map (ent T.m)).Perm (e :: del L n) := ((hp.map (ent T.m)).trans h.perm).trans hd
  have h2 : ent T.m a = e := rise_n h.rise (h.mem (hp.mem_iff.1 (List.mem_cons_self ..))) he (by rw [hen]; exact hn)
  rw [h2] at h1
  exact h1.cons_inv
theorem lv_al {m : M} {t : Int} {al lv : List Int} (h : Shape m t al lv) : ∀ i ∈ lv, i ∈ al := fun i hi => (Shape.leafs h i hi).1
/-- One leaf less. -/
theorem pls_less {pl : Int → Option Int} {m : M} {lv lv' : List Int} {a n : Int} (h : ∀ n i, pl n = some i ↔ i ∈ lv ∧ (m i).n = n) (hp : (a :: lv').Perm lv) (hn : (m a).n = n) (ha : a ∉ lv') : ∀ k i, delI pl n k = some i ↔ i ∈ lv' ∧ (m i).n = k := fun k i => by
  unfold delI
  have hpa : pl n = some a := (h n a).2 ⟨hp.mem_iff.1 (List.mem_cons_self ..), hn⟩
  by_cases e : k = n
  · subst e
    rw [if_pos rfl]
    constructor
    · intro q; cases q
    · rintro ⟨hi, hk⟩
      have := (h k i).2 ⟨hp.mem_iff.1 (List.mem_cons_of_mem _ hi), hk⟩
      rw [hpa] at this
      injection this with this
      rw [this] at ha; exact absurd hi ha
  · rw [if_neg e, h k i]
    constructor
    · rintro ⟨hi, hk⟩
      rcases List.mem_cons.1 (hp.mem_iff.2 hi) with q | hi
      · rw [q, hn] at hk; exact absurd hk.symm e
      · exact ⟨hi, hk⟩
    · rintro ⟨hi, hk⟩
      exact ⟨hp.mem_iff.1 (List.mem_cons_of_mem _ hi), hk⟩
set_option maxRecDepth 100000 in
set_option maxHeartbeats 4000000 in
theorem dropErr {p : Nat} {n : Int} (w : World) (hm : w.cell? ⟨p, 0, none⟩ = some (.bool true)) (hp : p < w.heap.size) (he : askS n bzero ≠ 0) : RetB Try.prog 16 #[.pointer (some ⟨p, 0, none⟩), .int .i64 n] w (.int .i64 (askS n bzero)) := by
  have AS := Lib.hid (askedC (n := n) (x := bzero) _ hm hp)
  obtain ⟨e, hee⟩ : ∃ e, askS n bzero = e := ⟨_, rfl⟩
  rw [hee] at he
  rw [hee] at AS ⊢
  have t1 : (e != 0) = true := by simpa using he
  unfold RetB
  go_enter Try.func16, Try.ntmps16
  go_wp2_with fail
  refine AS.out.mono ?_
  rintro e1 w1 ⟨rfl, hS⟩
  go_wp2_with fail
  exact bodyPost_ret (v := .int .i64 e) (by simp [results, Try.results16, go_sem, *]) rfl ⟨rfl, hS⟩
set_option maxRecDepth 100000 in
set_option maxHeartbeats 4000000 in
theorem dropNo {p b c : Nat} {n : Int} {pl : Int → Option Int} (w : World) (hm : w.cell? ⟨p, 0, none⟩ = some (.bool true)) (hp : p < w.heap.size) (h5 : w.cell? ⟨p, 5, none⟩ = some (.map (some b))) (hv : VM w b (im pl) c) (hr : 1 ≤ n ∧ n ≤ 4096) (hn : pl n = none) : RetB Try.prog 16 #[.pointer (some ⟨p, 0, none⟩), .int .i64 n] w (.int .i64 4) := by
  have AS := Lib.hid (askedC (n := n) (x := bzero) _ hm hp)
  rw [ask0, if_pos hr] at AS
  have wf := wf_rng hr
  unfold RetB
  go_enter Try.func16, Try.ntmps16
  go_wp2_with fail
  refine AS.out.mono ?_
  rintro e1 w1 ⟨rfl, hW⟩
  have c5 : w1.cell? ⟨p, 5, none⟩ = some (.map (some b)) := by rw [(bcell hW).1 p 5 hp]; exact h5
  have hv1 := hv.step hW
  have l1 := hv1.look_ok wf Try.underlying56 (zI w1)
  rw [im_some, im_no hn, hn] at l1
  simp only [Option.isSome_none] at l1
  have HW := Lib.hid hW
  have hp1 : p < w1.heap.size := by have := hW.size; omega
  clear hm h5 hv hW hv1
  go_wp2_with fail
  exact bodyPost_ret (v := .int .i64 4) (by simp [results, Try.results16, go_sem, *]) rfl ⟨rfl, HW.out⟩
set_option maxRecDepth 100000 in
set_option maxHeartbeats 4000000 in
theorem dropIn {p K b c : Nat} {mg n : Int} {L : List En} {T : Tn} {F al lv : List Int} {pl : Int → Option Int} (w : World) (h : TI0 w p mg L K T F al lv b c pl) (hK : K < 80000) (hr : 1 ≤ n ∧ n ≤ 4096) (hn : isIn L n = true) :
    Calls Try.prog 16 #[.pointer (some ⟨p, 0, none⟩), .int .i64 n] w fun e w' => e = .returned (.int .i64 0) ∧ ∃ S', TI w' p mg (del L n) S' (K + 4) ∧ Aft2 w w' (own T b) S' := by
  have hp := h.lt
  have hm : w.cell? ⟨p, 0, none⟩ = some (.bool true) := by have := TO.madec h.ts.tx.to; rw [h.p_] at this; exact this
  have AS := Lib.hid (askedC (n := n) (x := bzero) _ hm hp)
  rw [ask0, if_pos hr] at AS
  have wf := wf_rng hr
  obtain ⟨a, hpa, hal, han, haN, _⟩ := h.look_in hn
  have H0 := Lib.hid h
  clear h hm
  go_enter Try.func16, Try.ntmps16
  go_wp2_with fail
  refine AS.out.mono ?_
  rintro e1 w1 ⟨rfl, hW⟩
  have h2 := H0.out.step hW
  have c5 : w1.cell? ⟨p, 5, none⟩ = some (.map (some b)) := by have := TO.mpc h2.ts.tx.to; rw [h2.p_, h2.ts.tx.mp] at this; exact this
  have hvm := h2.ts.tx.vm
  have l1 := hvm.look_ok wf Try.underlying56 (zI w1)
  rw [im_some, im_at hpa, hpa] at l1
  simp only [Option.isSome_some] at l1
  have hp1 := h2.lt
  have HW := Lib.hid hW; have H2 := Lib.hid h2
  clear h2 hW AS hp
  go_wp2_with (at_delete; refine wpL_del (by rfl) (.tmp 29) (.tmp 30) (by rfl) (by rfl) (by rfl) hvm wf Try.underlying56 ?_; intro w2 hv2 ht2; have HV2 := Lib.hid hv2; have HT2 := Lib.hid ht2; clear hv2 ht2 c5 hp1 l1)
  have h2 := H2.out
  have hX2 : TX w2 T F b c (delI pl n) := by
    refine mapK h2.ts.tx ?_ HT2.out
    have := HV2.out
    rw [im_del] at this; exact this
  have hTS : TS w2 T F al lv b c (delI pl n) K := ⟨hX2, h2.ts.sh, h2.ts.nd, h2.ts.rng, h2.ts.n1, h2.ts.n2, h2.ts.n3⟩
  have hCT := cutC (a := a) w2 hTS (by omega) hal
  rw [h2.p_] at hCT
  refine hCT.mono ?_
  clear hCT
  rintro e w3 ⟨rfl, T3, F3, al3, lv3, hC⟩
  have hT3 : TN w3 T3 := by
    rcases hC.ts.tx.to with ⟨q, _⟩ | q
    · have := hC.lt; omega
    · exact q
  have hpT : T3.p = p := hC.af.p.trans h2.p_
  have c3 : w3.cell? ⟨p, 3, none⟩ = some T3.fr := by have := TO.fr hC.ts.tx.to; rw [hpT] at this; exact this
  have l3 : p < w3.heap.size := by have := hC.ts.tx.pLt; rw [hpT] at this; exact this
  have hWa : Below w3.heap.size w3 (w3.alloc (.cells [.int .i64 (a : Int)].toArray 3)) := (Below.refl _ _).alloc (Nat.le_refl _) _
  have hXa := hC.ts.tx.step hWa
  have hTa := hT3.step hWa
  have hOa : OwnV (w3.alloc (.cells [.int .i64 (a : Int)].toArray 3)) 0 3 T3.fr (iv F3) := hXa.fr
  have hXc : (w3.alloc (.cells [.int .i64 (a : Int)].toArray 3)).cell? ⟨w3.heap.size, 0, none⟩ = some (.int .i64 (a : Int)) := by rw [(Box.new rfl : Box _ w3.heap.size [.int .i64 (a : Int)] 3).cell]; rfl
  have hlen : (iv F3).length ≤ 1000000 := by have := hC.ts.n2; rw [iv_len]; omega
  have HXa := Lib.hid hXa; have HTa := Lib.hid hTa; have HWa := Lib.hid hWa; have HC := Lib.hid hC
  have C37 := Lib.hid (fun (v7 : Value) (w7 : World) (hG : World.grownBy (w3.alloc (.cells [.int .i64 (a : Int)].toArray 3)) w7 T3.fr.ownBlock) => (show w7.cell? ⟨T3.p, 3, none⟩ = some T3.fr ∧ w7.frozen? ⟨T3.p, 3, none⟩ = false ∧ p < w7.heap.size from by
    have hp := hG.block _ (TN.lt HTa.out).1 fun e => (HXa.out.fp _ e.symm).1 rfl
    have hb := Box.block HTa.out.box hp
    exact ⟨by rw [hb.cell]; rfl, hb.free 3, by rw [← hpT]; exact hb.lt⟩))
  have PU := Lib.hid (fun (v7 : Value) (w7 : World) (hO : OwnV w7 0 3 v7 (iv F3 ++ [.int .i64 (a : Int)])) (hG : World.grownBy (w3.alloc (.cells [.int .i64 (a : Int)].toArray 3)) w7 T3.fr.ownBlock) (hL : v7.ownBlock = T3.fr.ownBlock ∨ v7.ownBlock = some (w3.alloc (.cells [.int .i64 (a : Int)].toArray 3)).heap.size) => TX.push HXa.out HTa.out hO hG hL)
  clear hC hXa hTa hWa hT3 hTS hX2 h2
  go_wp2_with (first | (at_builtin; refine wpV_app Try.underlying29 infoI (by rfl) (by decide) (by rfl) (.tmp 38) (.tmp 40) (by rfl) (by rfl) hOa (by rfl) hXc (by rfl) hlen (Nat.zero_le _) ?_; intro v7 w7 hO7 hG7 hL7 hB7; have s7 := own_one hO7; obtain ⟨c37, f37, l37⟩ := C37.out v7 w7 hG7; have P7 := Lib.hid (PU.out _ w7 hO7 hG7 hL7); clear hO7 hG7 hL7 hB7; (conv => arg 5; simp only [Act.put, List.setIfInBounds_toArray, List.set_cons_zero, List.set_cons_succ]); (iterate 2 (with_reducible refine wpL_val (v := ?_) ?_ ?_ ?_; rotate_left; (· kernel_rfl); (· go_simp; try with_reducible rfl); conv => arg 5; simp only [Act.put, List.setIfInBounds_toArray, List.set_cons_zero, List.set_cons_succ])); (refine wpL_sc (x := .tmp 43) (y := .tmp 41) (b := T3.p) (off := 3) (v := v7) (by rfl) (by rfl) (by rw [hpT]; rfl) (by rfl) s7.1 s7.2 szIs (by rw [c37]; rfl) f37 ?_); (conv => arg 5; simp only [Act.put, List.setIfInBounds_toArray, List.set_cons_zero, List.set_cons_succ]); refine wpList_nil ?_))
  revert P7
  generalize w7.setCell ⟨T3.p, 3, none⟩ v7 = w8
  intro P7
  obtain ⟨q1, q2, q3, q4⟩ := P7.out
  refine bodyPost_ret (v := .int .i64 0) (by simp [results, Try.results16, go_sem, *]) rfl ⟨rfl, ?_⟩
  have hC := HC.out
  have h0 := H2.out
  have hna : ∀ i ∈ lv3, i ∈ al3 := fun i hi => lv_al hC.ts.sh i hi
  have hout : (a : Int) ∉ lv3 := fun hm => hC.out (List.mem_append_left _ (hna _ hm))
  have hent : ∀ i ∈ lv3, ent T3.m i = ent T.m i := fun i hi => by
    obtain ⟨e1, e2, e3⟩ := hC.af.ent i (hC.lv.mem_iff.1 (List.mem_cons_of_mem _ hi))
    unfold ent; rw [e1, e2, e3]
  have nd3 := hC.ts.nd
  refine ⟨own { T3 with fr := v7 } b, ⟨{ T3 with fr := v7 }, F3 ++ [(a : Int)], al3, lv3, b, c, delI pl n, ⟨⟨q1, hC.ts.sh, ?_, fun i hi => ?_, ?_, ?_, ?_⟩, hpT, hC.af.mg.trans h0.mg_, h0.mg0, ?_, del_rise _ h0.rise, fun k i => ?_, fun e he => h0.rng e ((del_sub L n).subset he), ?_⟩, rfl⟩, ?_⟩
  · rw [← List.append_assoc]
    refine List.nodup_append.2 ⟨nd3, by simp, fun i hi j hj => ?_⟩
    rw [List.mem_singleton.1 hj]
    exact fun e => hC.out (e ▸ hi)
  · show 0 ≤ i ∧ i < (T3.N : Int)
    rw [← List.append_assoc] at hi
    rcases List.mem_append.1 hi with hi | hi
    · exact hC.ts.rng i hi
    · rw [List.mem_singleton.1 hi]; have := hC.lt; omega
  · have := hC.ts.n1; show T3.N ≤ K + 4; omega
  · have := hC.ts.n2; rw [List.length_append, List.length_singleton]; omega
  · have := hC.ts.n3; omega
  · show (lv3.map (ent T3.m)).Perm _
    rw [List.map_congr_left hent]
    exact less_perm h0 hC.lv han hn
  · have := pls_less h0.pls hC.lv han hout k i
    rw [this]
    constructor
    · rintro ⟨hi, hk⟩
      refine ⟨hi, ?_⟩
      rw [← hk]; exact (hC.af.ent i (hC.lv.mem_iff.1 (List.mem_cons_of_mem _ hi))).1
    · rintro ⟨hi, hk⟩
      refine ⟨hi, ?_⟩
      rw [← hk]; exact (hC.af.ent i (hC.lv.mem_iff.1 (List.mem_cons_of_mem _ hi))).1.symm
  · have := h0.cK; omega
  · have f2 : Fr w w2 (own T b) := (Fr.of_below (S := own T b) HW.out).trans (S' := fun k => k = b) ⟨HT2.out.grown.os, HT2.out.grown.tape, HT2.out.grown.output, HT2.out.grown.size, fun k hk hb => Turned.block HT2.out hb⟩ fun j hj => .inl (.inr (.inr (.inr hj)))
    have f3 := f2.trans hC.af.fr fun j hj => .inl hj
    have o3 : ∀ k, own T3 b k → own T b k ∨ w.heap.size ≤ k := fun k hk => (hC.af.ow k hk).imp id fun q => by have := f2.size; omega
    have f4 := (f3.trans (Fr.of_below (S := own T b) HWa.out) fun j hj => .inl hj)
    have f5 := f4.trans q3 o3
    refine ⟨f5, fun k hk => ?_⟩
    rcases q4 k hk with q | q
    · exact o3 k q
    · right; have := f4.size; omega
/-- A bound dropped. -/
theorem dropC {p K : Nat} {mg n : Int} {L : List En} {S : Nat → Prop} (w : World) (h : TI w p mg L S K) (hK : K < 80000) :
    Calls Try.prog 16 #[.pointer (some ⟨p, 0, none⟩), .int .i64 n] w fun e w' => e = .returned (.int .i64 (dropE L n)) ∧ ∃ S', TI w' p mg (dropL L n) S' (K + 4) ∧ Aft2 w w' S S' := by
  obtain ⟨T, F, al, lv, b, c, pl, h, rfl⟩ := h
  have hm : w.cell? ⟨p, 0, none⟩ = some (.bool true) := by have := TO.madec h.ts.tx.to; rw [h.p_] at this; exact this
  by_cases hr : 1 ≤ n ∧ n ≤ 4096
  · cases hn : isIn L n with
    | true =>
      have e5 : dropE L n = 0 := by unfold dropE; rw [if_pos hr, if_pos hn]
      have e6 : dropL L n = del L n := by unfold dropL; rw [if_pos e5]
      rw [e5, e6]
      exact dropIn w h hK hr hn
    | false =>
      have e5 : dropE L n = 4 := by unfold dropE; rw [if_pos hr, hn]; rfl
      have e6 : dropL L n = L := by unfold dropL; rw [if_neg (by rw [e5]; decide)]
      rw [e5, e6]
      have h5 : w.cell? ⟨p, 5, none⟩ = some (.map (some b)) := by have := TO.mpc h.ts.tx.to; rw [h.p_, h.ts.tx.mp] at this; exact this
      refine (dropNo w hm h.lt h5 h.ts.tx.vm hr (h.look_out hn)).mono ?_
      rintro e w1 ⟨rfl, hS⟩
      exact ⟨rfl, own T b, ⟨T, F, al, lv, b, c, pl, (h.step hS).mono (by omega), rfl⟩, Aft2.of_below hS⟩
  · have e0 : askS n bzero = 2 := by rw [ask0, if_neg hr]
    have e5 : dropE L n = 2 := by unfold dropE; rw [if_neg hr]
    have e6 : dropL L n = L := by unfold dropL; rw [if_neg (by rw [e5]; decide)]
    rw [e5, e6]
    have := dropErr (n := n) w hm h.lt (by rw [e0]; decide)
    rw [e0] at this
    refine Calls.mono this ?_
    rintro e w1 ⟨rfl, hS⟩
    exact ⟨rfl, own T b, ⟨T, F, al, lv, b, c, pl, (h.step hS).mono (by omega), rfl⟩, Aft2.of_below hS⟩
end TDr
end Go.Proofs.Ytbcjnckejkjfeaa
namespace Go.Proofs.Ytbcjnckejkjfeaa
set_option linter.unusedVariables false
set_option linter.unusedSimpArgs false
open Go.RowKit Go.NP
namespace TSt
open TrP TrW TrC TrA TrF TrG TrX TrY TrK THg TCt QVl QVm TMp TrE TrI TAs TPu TDr
theorem cf39 (args : Array Value) (w1 : World) : (callFunc 39 args).run Try.prog w1 = .ok (.enter 39 args) w1 := enters Try.func39 (by kernel_rfl) (by kernel_rfl) args w1
theorem cf41 (args : Array Value) (w1 : World) : (callFunc 41 args).run Try.prog w1 = .ok (.enter 41 args) w1 := enters Try.func41 (by kernel_rfl) (by kernel_rfl) args w1
/-- What Set answers, and does. -/
def setE (L : List En) (n : Int) (x : Bd) : Int := if 1 ≤ n ∧ n ≤ 4096 then (if x.ok then (if isIn L n then 0 else 4) else 7) else 2
def fatOf (L : List En) (n : Int) : Bd := ((get L n).map (·.fat)).getD bzero
def setM (L : List En) (n : Int) (x : Bd) : Bool := decide (setE L n x = 0) && !holds (fatOf L n) x
def setL (mg : Int) (L : List En) (n : Int) (x : Bd) : List En := if setE L n x = 0 then upd L ⟨n, x, if holds (fatOf L n) x then fatOf L n else grow x mg⟩ else L
theorem setE_ask {L : List En} {n : Int} {x : Bd} (h : askS n x ≠ 0) : setE L n x = askS n x := by
  unfold setE askS errIf at *
  split
  · rename_i h1; rw [if_pos h1] at h
    split
    · rename_i h2; rw [if_pos h2] at h; exact absurd rfl h
    · rfl
  · rfl
/-- A node's bound is written. -/
theorem TN.putB {w : World} {T : Tn} (h : TN w T) {k : Nat} (hk : k < T.N) (b : Bd) : TN (w.setCells T.g (k * 17 + 6) (bdv b)) { T with m := st T.m k { T.m k with b := b } } := by
  have h1 := h.put (v := .int .i64 b.lo.x) (x := { T.m k with b := ⟨⟨b.lo.x, (T.m k).b.lo.y, (T.m k).b.lo.z⟩, (T.m k).b.hi⟩ }) hk (show 6 < 17 by omega) rfl
  have h2 := h1.put (v := .int .i64 b.lo.y) (x := { T.m k with b := ⟨⟨b.lo.x, b.lo.y, (T.m k).b.lo.z⟩, (T.m k).b.hi⟩ }) hk (show 7 < 17 by omega) (by simp only [st_at]; rfl)
  have h3 := h2.put (v := .int .i64 b.lo.z) (x := { T.m k with b := ⟨b.lo, (T.m k).b.hi⟩ }) hk (show 8 < 17 by omega) (by simp only [st_at]; rfl)
  have h4 := h3.put (v := .int .i64 b.hi.x) (x := { T.m k with b := ⟨b.lo, ⟨b.hi.x, (T.m k).b.hi.y, (T.m k).b.hi.z⟩⟩ }) hk (show 9 < 17 by omega) (by simp only [st_at]; rfl)
  have h5 := h4.put (v := .int .i64 b.hi.y) (x := { T.m k with b := ⟨b.lo, ⟨b.hi.x, b.hi.y, (T.m k).b.hi.z⟩⟩ }) hk (show 10 < 17 by omega) (by simp only [st_at]; rfl)
  have h6 := h5.put (v := .int .i64 b.hi.z) (x := { T.m k with b := b }) hk (show 11 < 17 by omega) (by simp only [st_at]; rfl)
  simp only [st_st] at h6
  exact h6
theorem thereP {w : World} {T : Tn} (h : TN w T) {k : Nat} (hk : k < T.N) (o n : Nat) (ho : o + n ≤ 17) : w.there T.g (k * 17 + o) n := fun j hj => by
  rw [Nat.add_assoc]
  exact TN.thereN h hk (o + j) (by omega)
theorem lv_sub : ∀ t : Tr, t.lv.Sublist t.all
  | .leaf i => List.Sublist.refl _
  | .node i l r => List.Sublist.cons i (List.Sublist.append (lv_sub l) (lv_sub r))
theorem Shape.lvnd {m : M} {t : Int} {al lv : List Int} (h : Shape m t al lv) (hn : al.Nodup) : lv.Nodup := by
  rcases h with ⟨_, _, rfl⟩ | ⟨s, h1, h2, h3, h4, h5, h6⟩
  · exact List.nodup_nil
  · exact h6.nodup_iff.1 ((lv_sub s).nodup (h5.nodup_iff.2 hn))
/-- The entries behind a Set. -/
theorem upd_of {p K b c a : Nat} {mg n : Int} {x g : Bd} {L : List En} {T : Tn} {F al lv lv' : List Int} {pl : Int → Option Int} {w : World} {m' : M} (h : TI0 w p mg L K T F al lv b c pl) (hp : ((a : Int) :: lv').Perm lv) (hn : (T.m a).n = n) (hi : isIn L n = true) (hm : ∀ i ∈ lv', ent m' i = ent T.m i) (ha : ent m' a = ⟨n, x, g⟩) :
    (((a : Int) :: lv').map (ent m')).Perm (upd L ⟨n, x, g⟩) := by
  rw [List.map_cons, ha, List.map_congr_left hm]
  exact (List.Perm.cons _ (less_perm h hp hn hi)).trans (upd_perm h.rise hi).symm
theorem upd_mem {L : List En} {e x : En} (hr : Rise L) (hi : isIn L e.n = true) (h : x ∈ upd L e) : x = e ∨ x ∈ L := by
  rcases List.mem_cons.1 ((upd_perm hr hi).mem_iff.1 h) with q | q
  · exact .inl q
  · exact .inr ((del_sub L e.n).subset q)
set_option maxRecDepth 100000 in
set_option maxHeartbeats 4000000 in
theorem setErr {p : Nat} {n : Int} {x : Bd} (w : World) (hm : w.cell? ⟨p, 0, none⟩ = some (.bool true)) (hp : p < w.heap.size) (he : askS n x ≠ 0) : RetB Try.prog 20 #[.pointer (some ⟨p, 0, none⟩), .int .i64 n, .agg #[.int .i64 x.lo.x, .int .i64 x.lo.y, .int .i64 x.lo.z, .int .i64 x.hi.x, .int .i64 x.hi.y, .int .i64 x.hi.z]] w (.tuple #[.bool false, .int .i64 (askS n x)]) := by
  have hb : Below w.heap.size w (w.alloc (.cells #[.int .i64 x.lo.x, .int .i64 x.lo.y, .int .i64 x.lo.z, .int .i64 x.hi.x, .int .i64 x.hi.y, .int .i64 x.hi.z] 35)) := (Below.refl _ _).alloc (Nat.le_refl _) _
  have hm2 : (w.alloc (.cells #[.int .i64 x.lo.x, .int .i64 x.lo.y, .int .i64 x.lo.z, .int .i64 x.hi.x, .int .i64 x.hi.y, .int .i64 x.hi.z] 35)).cell? ⟨p, 0, none⟩ = some (.bool true) := by rw [(bcell hb).1 p 0 hp]; exact hm
  have hp2 : p < (w.alloc (.cells #[.int .i64 x.lo.x, .int .i64 x.lo.y, .int .i64 x.lo.z, .int .i64 x.hi.x, .int .i64 x.hi.y, .int .i64 x.hi.z] 35)).heap.size := by have := hb.size; omega
  have AS := Lib.hid (askedC (n := n) (x := x) _ hm2 hp2)
  obtain ⟨e, hee⟩ : ∃ e, askS n x = e := ⟨_, rfl⟩
  rw [hee] at he
  rw [hee] at AS ⊢
  have t1 : (e != 0) = true := by simpa using he
  unfold RetB
  go_enter Try.func20, Try.ntmps20
  go_wp2_with fail
  refine AS.out.mono ?_
  rintro e1 w1 ⟨rfl, hS⟩
  go_wp2_with fail
  exact bodyPost_ret (v := .tuple #[.bool false, .int .i64 e]) (by simp [results, Try.results20, go_sem, *]) rfl ⟨rfl, hb.trans (hS.mono hb.size)⟩
set_option maxRecDepth 100000 in
set_option maxHeartbeats 4000000 in
theorem setNo {p b c : Nat} {n : Int} {x : Bd} {pl : Int → Option Int} (w : World) (hm : w.cell? ⟨p, 0, none⟩ = some (.bool true)) (hp : p < w.heap.size) (h5 : w.cell? ⟨p, 5, none⟩ = some (.map (some b))) (hv : VM w b (im pl) c) (he : askS n x = 0) (hn : pl n = none) : RetB Try.prog 20 #[.pointer (some ⟨p, 0, none⟩), .int .i64 n, .agg #[.int .i64 x.lo.x, .int .i64 x.lo.y, .int .i64 x.lo.z, .int .i64 x.hi.x, .int .i64 x.hi.y, .int .i64 x.hi.z]] w (.tuple #[.bool false, .int .i64 4]) := by
  have hb : Below w.heap.size w (w.alloc (.cells #[.int .i64 x.lo.x, .int .i64 x.lo.y, .int .i64 x.lo.z, .int .i64 x.hi.x, .int .i64 x.hi.y, .int .i64 x.hi.z] 35)) := (Below.refl _ _).alloc (Nat.le_refl _) _
  have hm2 : (w.alloc (.cells #[.int .i64 x.lo.x, .int .i64 x.lo.y, .int .i64 x.lo.z, .int .i64 x.hi.x, .int .i64 x.hi.y, .int .i64 x.hi.z] 35)).cell? ⟨p, 0, none⟩ = some (.bool true) := by rw [(bcell hb).1 p 0 hp]; exact hm
  have hp2 : p < (w.alloc (.cells #[.int .i64 x.lo.x, .int .i64 x.lo.y, .int .i64 x.lo.z, .int .i64 x.hi.x, .int .i64 x.hi.y, .int .i64 x.hi.z] 35)).heap.size := by have := hb.size; omega
  have AS := Lib.hid (askedC (n := n) (x := x) _ hm2 hp2)
  rw [he] at AS
  have wf := wf_rng (askS_zero he).1
  unfold RetB
  go_enter Try.func20, Try.ntmps20
  go_wp2_with fail
  refine AS.out.mono ?_
  rintro e1 w1 ⟨rfl, hS⟩
  have hW := hb.trans (hS.mono hb.size)
  have c5 : w1.cell? ⟨p, 5, none⟩ = some (.map (some b)) := by rw [(bcell hW).1 p 5 hp]; exact h5
  have hv1 := hv.step hW
  have l1 := hv1.look_ok wf Try.underlying56 (zI w1)
  rw [im_some, im_no hn, hn] at l1
  simp only [Option.isSome_none] at l1
  have HW := Lib.hid hW
  clear hm h5 hv hS hb hm2 hp2 hW hv1
  have hp1 : p < w1.heap.size := by have := HW.out.size; omega
  go_wp2_with fail
  exact bodyPost_ret (v := .tuple #[.bool false, .int .i64 4]) (by simp [results, Try.results20, go_sem, *]) rfl ⟨rfl, HW.out⟩
set_option maxRecDepth 100000 in
set_option maxHeartbeats 8000000 in
theorem setIn {K b c : Nat} {n : Int} {x : Bd} {L : List En} {T : Tn} {F al lv : List Int} {pl : Int → Option Int} (w : World) (h : TI0 w T.p T.mg L K T F al lv b c pl) (hK : K < 80000) (he : askS n x = 0) (hn : isIn L n = true) :
    Calls Try.prog 20 #[.pointer (some ⟨T.p, 0, none⟩), .int .i64 n, .agg #[.int .i64 x.lo.x, .int .i64 x.lo.y, .int .i64 x.lo.z, .int .i64 x.hi.x, .int .i64 x.hi.y, .int .i64 x.hi.z]] w fun e w' => e = .returned (.tuple #[.bool (!holds (fatOf L n) x), .int .i64 0]) ∧ ∃ S', TI w' T.p T.mg (upd L ⟨n, x, if holds (fatOf L n) x then fatOf L n else grow x T.mg⟩) S' (K + 4) ∧ Aft2 w w' (own T b) S' := by
  have hp := h.lt
  have hb : Below w.heap.size w (w.alloc (.cells #[.int .i64 x.lo.x, .int .i64 x.lo.y, .int .i64 x.lo.z, .int .i64 x.hi.x, .int .i64 x.hi.y, .int .i64 x.hi.z] 35)) := (Below.refl _ _).alloc (Nat.le_refl _) _
  have h1 := h.step hb
  have hm2 : (w.alloc (.cells #[.int .i64 x.lo.x, .int .i64 x.lo.y, .int .i64 x.lo.z, .int .i64 x.hi.x, .int .i64 x.hi.y, .int .i64 x.hi.z] 35)).cell? ⟨T.p, 0, none⟩ = some (.bool true) := TO.madec h1.ts.tx.to
  have hp2 := h1.lt
  have AS := Lib.hid (askedC (n := n) (x := x) _ hm2 hp2)
  rw [he] at AS
  have nr := askS_zero he
  have wf := wf_rng nr.1
  obtain ⟨a, hpa, hal, han, haN, hget⟩ := h.look_in hn
  obtain ⟨f, hf⟩ : ∃ f, fatOf L n = f := ⟨_, rfl⟩
  have hff : (T.m a).fat = f := by rw [← hf]; unfold fatOf; rw [hget]; rfl
  have hbx : Box (w.alloc (.cells #[.int .i64 x.lo.x, .int .i64 x.lo.y, .int .i64 x.lo.z, .int .i64 x.hi.x, .int .i64 x.hi.y, .int .i64 x.hi.z] 35)) w.heap.size [.int .i64 x.lo.x, .int .i64 x.lo.y, .int .i64 x.lo.z, .int .i64 x.hi.x, .int .i64 x.hi.y, .int .i64 x.hi.z] 35 := Box.new rfl
  have H0 := Lib.hid h
  rw [hf]
  clear h
  go_enter Try.func20, Try.ntmps20
  go_wp2_with fail
  refine AS.out.mono ?_
  rintro e1 w1 ⟨rfl, hS⟩
  have hW := hb.trans (hS.mono hb.size)
  obtain ⟨gx, hgx⟩ : ∃ g, w.heap.size = g := ⟨_, rfl⟩
  have hx1 := hbx.step hS
  have h2 := h1.step hS
  rw [hgx] at hx1
  rw [hgx]
  have hT2 : TN w1 T := by
    rcases h2.ts.tx.to with ⟨q, _⟩ | q
    · omega
    · exact q
  have c5 : w1.cell? ⟨T.p, 5, none⟩ = some (.map (some b)) := by have := TO.mpc h2.ts.tx.to; rw [h2.ts.tx.mp] at this; exact this
  have c2 := hT2.nodes
  have l1 := h2.ts.tx.vm.look_ok wf Try.underlying56 (zI w1)
  rw [im_some, im_at hpa, hpa] at l1
  simp only [Option.isSome_some] at l1
  have HW := Lib.hid hW; have H2 := Lib.hid h2; have HX := Lib.hid hx1; have HT := Lib.hid hT2
  have hp1 := h2.lt
  have lx := hx1.lt
  have a0 : 0 ≤ (a : Int) ∧ (a : Int) < T.N := by omega
  clear hm2 hb hp2 hW h1 h2 hbx hx1 hS AS hT2
  go_wp2_with fail
  refine wp_region_ph [(8, .free [])] (by kernel_rfl) (by kernel_rfl) ?_
  refine Ph.belowd ?_
  simp only [List.drop_succ_cons, List.drop_zero, List.take_succ_cons, List.take_zero, Nat.reduceSub, Nat.sub_zero]
  iterate 5 (refine SeqO.val (v := ?_) (by rfl) (by rfl) (fun w1 hS => ?_) ?_; rotate_left; (· obtain ⟨hc, hcf⟩ := bcell hS; go_simp; try with_reducible rfl); simp only [Act.put, List.setIfInBounds_toArray, List.set_cons_zero, List.set_cons_succ])
  refine SeqO.row (l := [.int .i64 x.lo.x, .int .i64 x.lo.y, .int .i64 x.lo.z, .int .i64 x.hi.x, .int .i64 x.hi.y, .int .i64 x.hi.z]) (by rfl) (by rfl) HX.out Try.underlying35 (by rfl) (by kernel_rfl) (by rfl) (by rfl) ?_
  simp only [Act.put, List.setIfInBounds_toArray, List.set_cons_zero, List.set_cons_succ]
  iterate 2 (refine SeqO.val (v := ?_) (by rfl) (by rfl) (fun w1 hS => ?_) ?_; rotate_left; (· obtain ⟨hc, hcf⟩ := bcell hS; go_simp; try with_reducible rfl); simp only [Act.put, List.setIfInBounds_toArray, List.set_cons_zero, List.set_cons_succ])
  refine SeqO.nil0 fun w2 hS2 => ?_
  refine Ph.last ?_
  simp only [List.drop_succ_cons, List.drop_zero, List.take_succ_cons, List.take_zero, Nat.reduceSub, Nat.sub_zero]
  have h3 := HT.out.step hS2
  have HX2 := HX.out.step hS2
  have f2 : Fr w w2 (own T b) := Fr.of_below (S := own T b) (HW.out.trans (hS2.mono HW.out.size))
  have X2 := H2.out.ts.tx.step hS2
  refine wpList_store_mid (by rfl) 35 (.tmp 36) (.tmp 34) (by rfl) T.g (a * 17 + 6) (bdv x).toArray (by rfl) (by rfl) (thereP h3 haN 6 6 (by omega)) (by kernel_rfl) (by simp [bdv, Value.oneCell']) ?_
  have hgx2 : gx ≠ T.g := by have := H0.out.ts.tx.lt _ (.inr (.inl rfl)); omega
  have M3 := Mod.cells (p := T.p) (g := T.g) (bdv x) (a * 17 + 6) w2 (Mod.refl _ _ _)
  have h4 := TN.putB h3 haN x
  have HX3 := box_cells (fun e => hgx2 e.symm) (bdv x) (a * 17 + 6) _ HX2
  have X3 := X2.moved (m := st T.m a { T.m a with b := x }) (t := T.top) h4 M3
  have f3 := f2.trans (Fr.of_mod (S := own T b) M3 (.inl rfl) (.inr (.inl rfl))) fun j hj => .inl hj
  revert h4 HX3 X3 f3
  show TN (w2.setCells T.g (a * 17 + 6) (bdv x).toArray.toList) _ → _
  generalize w2.setCells T.g (a * 17 + 6) (bdv x).toArray.toList = w3
  intro h4 HX3 X3 f3
  clear HT H2 HX HW hS2 h3 HX2 f2 X2 M3 c5 c2 l1 hp1 lx
  have H4 := Lib.hid h4; have HX := Lib.hid HX3; have HX4 := Lib.hid X3; have HF3 := Lib.hid f3
  refine wpList_nil ?_
  have c2 : w3.cell? ⟨T.p, 2, none⟩ = some (.slice (some ⟨T.g, 0, none⟩) T.N T.cap) := h4.nodes
  obtain ⟨lp, lg⟩ := TN.lt h4
  have lp : T.p < w3.heap.size := lp
  have HLG := Lib.hid (show T.g < w3.heap.size from lg)
  have lx := HX3.lt
  have fA : At' w3 T.g (a * 17) [.int .i64 f.lo.x, .int .i64 f.lo.y, .int .i64 f.lo.z, .int .i64 f.hi.x, .int .i64 f.hi.y, .int .i64 f.hi.z] := by
    have := TrK.fatAt h4 haN
    simp only [st_at] at this
    rw [hff] at this
    exact this
  have HFA := Lib.hid fA
  clear h4 HX3 X3 f3 fA lg
  go_wp2_with fail
  refine wp_region_ph [(10, .free [])] (by kernel_rfl) (by kernel_rfl) ?_
  refine Ph.belowd ?_
  simp only [List.drop_succ_cons, List.drop_zero, List.take_succ_cons, List.take_zero, Nat.reduceSub, Nat.sub_zero]
  iterate 7 (refine SeqO.val (v := ?_) (by rfl) (by rfl) (fun w1 hS => ?_) ?_; rotate_left; (· obtain ⟨hc, hcf⟩ := bcell hS; go_simp; try with_reducible rfl); simp only [Act.put, List.setIfInBounds_toArray, List.set_cons_zero, List.set_cons_succ])
  refine SeqO.at (l := [.int .i64 f.lo.x, .int .i64 f.lo.y, .int .i64 f.lo.z, .int .i64 f.hi.x, .int .i64 f.hi.y, .int .i64 f.hi.z]) (by rfl) (by rfl) HLG.out HFA.out Try.underlying35 (by rfl) (by kernel_rfl) (by rfl) (by rfl) ?_
  simp only [Act.put, List.setIfInBounds_toArray, List.set_cons_zero, List.set_cons_succ]
  refine SeqO.row (l := [.int .i64 x.lo.x, .int .i64 x.lo.y, .int .i64 x.lo.z, .int .i64 x.hi.x, .int .i64 x.hi.y, .int .i64 x.hi.z]) (by rfl) (by rfl) HX.out Try.underlying35 (by rfl) (by kernel_rfl) (by rfl) (by rfl) ?_
  simp only [Act.put, List.setIfInBounds_toArray, List.set_cons_zero, List.set_cons_succ]
  refine SeqO.callv (by rfl) (by rfl) (by rfl) cf41 (by simp [Act.eval]) (fun w1 hS => holdsC f x w1) ?_
  simp only [Act.put, List.setIfInBounds_toArray, List.set_cons_zero, List.set_cons_succ]
  refine SeqO.nil0 fun w4 hS4 => ?_
  refine Ph.last ?_
  simp only [List.drop_succ_cons, List.drop_zero, List.take_succ_cons, List.take_zero, Nat.reduceSub, Nat.sub_zero]
  refine wpList_nil ?_
  have H5 := Lib.hid (H4.out.step hS4)
  have HX5 := Lib.hid (HX.out.step hS4)
  have X5 := Lib.hid (HX4.out.step hS4)
  have HF5 := Lib.hid (HF3.out.trans (Fr.of_below (S := own T b) hS4) fun j hj => .inl hj)
  clear c2 lp lx HLG HFA H4 HX HX4 HF3 hS4
  cases hh : holds f x with
  | true =>
    go_wp2_with fail
    refine bodyPost_ret (v := .tuple #[.bool false, .int .i64 0]) (by simp [results, Try.results20, go_sem, *]) rfl ⟨rfl, ?_⟩
    have h0 := H0.out
    have nd := Shape.lvnd h0.ts.sh (List.nodup_append.1 h0.ts.nd).1
    have hpe : ((a : Int) :: lv.erase a).Perm lv := (List.perm_cons_erase hal).symm
    have hout : (a : Int) ∉ lv.erase a := fun hm => absurd rfl (List.Nodup.mem_erase_iff nd |>.1 hm).1
    have hme : ∀ i ∈ lv.erase a, ent (st T.m a { T.m a with b := x }) i = ent T.m i := fun i hi => by unfold ent; rw [st_ne fun e => hout (by have q := hi; rw [e] at q; exact q)]
    have hna : ∀ i, (st T.m a { T.m a with b := x } i).n = (T.m i).n := fun i => by
      by_cases e : i = a
      · subst e; rw [st_at]
      · rw [st_ne e]
    refine ⟨own T b, ⟨{ T with m := st T.m a { T.m a with b := x } }, F, al, lv, b, c, pl, ⟨⟨X5.out, Shape.setB h0.ts.sh (by rw [hff]; exact hh), h0.ts.nd, h0.ts.rng, ?_, ?_, ?_⟩, rfl, rfl, h0.mg0, ?_, upd_rise h0.rise hn, fun k i => ?_, fun e he => ?_, ?_⟩, rfl⟩, ⟨HF5.out, fun k hk => .inl hk⟩⟩
    · have := h0.ts.n1; show T.N ≤ K + 4; omega
    · have := h0.ts.n2; omega
    · have := h0.ts.n3; omega
    · exact ((hpe.map _).symm).trans (upd_of h0 hpe han hn hme (by show ent (st T.m a { T.m a with b := x }) a = _; unfold ent; rw [st_at]; simp only [hff, han]))
    · rw [h0.pls k i]
      show _ ↔ i ∈ lv ∧ (st T.m a { T.m a with b := x } i).n = k
      rw [hna]
    · rcases upd_mem h0.rise hn he with q | q
      · rw [q]; exact nr.1
      · exact h0.rng e q
    · have := h0.cK; omega
  | false =>
    have hm0 : ∀ k, k ≠ (a : Int) → (st T.m a { T.m a with b := x }) k = T.m k := fun k hk => st_ne hk
    have hma : (st T.m a { T.m a with b := x } a).u = (T.m a).u ∧ (st T.m a { T.m a with b := x } a).n = (T.m a).n := by rw [st_at]; exact ⟨rfl, rfl⟩
    have h0 := H0.out
    have hTS : TSm w4 { T with m := st T.m a { T.m a with b := x } } T.m F al lv b c pl K := ⟨X5.out, h0.ts.sh, h0.ts.nd, h0.ts.rng, h0.ts.n1, h0.ts.n2, h0.ts.n3⟩
    have HB := Lib.hid (fun (u : World) (hf : Fr w4 u (own T b)) => (show Box u gx [.int .i64 x.lo.x, .int .i64 x.lo.y, .int .i64 x.lo.z, .int .i64 x.hi.x, .int .i64 x.hi.y, .int .i64 x.hi.z] 35 from Box.block HX5.out (hf.block gx HX5.out.lt fun q => by have := H0.out.ts.tx.lt _ q; omega)))
    go_wp2_with fail
    refine (cutM (T := { T with m := st T.m a { T.m a with b := x } }) (a := a) w4 hTS (by omega) hal hm0 hma).mono ?_
    rintro e w5 ⟨rfl, T2, F2, al2, lv2, hC⟩
    have hpT : T2.p = T.p := hC.af.p
    have hN2 : TN w5 T2 := by
      rcases hC.ts.tx.to with ⟨q, _⟩ | q
      · have := hC.lt; omega
      · exact q
    have hfC : Fr w4 w5 (own T b) := hC.af.fr
    have c2 : w5.cell? ⟨T.p, 2, none⟩ = some (.slice (some ⟨T2.g, 0, none⟩) T2.N T2.cap) := by have := hN2.nodes; rw [hpT] at this; exact this
    have c1 : w5.cell? ⟨T.p, 1, none⟩ = some (.int .i64 T.mg) := by
      have := TO.mgc hC.ts.tx.to
      rw [hpT] at this
      rw [this]; exact congrArg (fun z => some (Value.int .i64 z)) hC.af.mg
    have B5 := HB.out w5 hfC
    obtain ⟨g, hg⟩ : ∃ g, grow x T.mg = g := ⟨_, rfl⟩
    obtain ⟨hq1, hq2⟩ := TN.lt hN2
    have lp : T.p < w5.heap.size := by rw [← hpT]; exact hq1
    have a0 : 0 ≤ (a : Int) ∧ (a : Int) < T2.N := by have := hC.lt; omega
    have gx2 : T2.g ≠ gx := fun e => by
      rcases hC.af.ow T2.g (.inr (.inl rfl)) with q | q
      · have := H0.out.ts.tx.lt _ q; omega
      · have := HX5.out.lt; omega
    have HC := Lib.hid hC; have HN := Lib.hid hN2; have HB5 := Lib.hid B5; have HFC := Lib.hid hfC
    have CE := Lib.hid (fun (u : World) (hS : Below w5.heap.size w5 u ∨ (TN u { T2 with m := st T2.m a { T2.m a with fat := g } } ∧ Mod w5 u T2.p T2.g ∧ Box u gx [.int .i64 x.lo.x, .int .i64 x.lo.y, .int .i64 x.lo.z, .int .i64 x.hi.x, .int .i64 x.hi.y, .int .i64 x.hi.z] 35)) => (show u.cell? ⟨T.p, 2, none⟩ = some (.slice (some ⟨T2.g, 0, none⟩) T2.N T2.cap) ∧ u.cell? ⟨T.p, 1, none⟩ = some (.int .i64 T.mg) ∧ Box u gx [.int .i64 x.lo.x, .int .i64 x.lo.y, .int .i64 x.lo.z, .int .i64 x.hi.x, .int .i64 x.hi.y, .int .i64 x.hi.z] 35 from by
      rcases hS with q | ⟨q1, q2, q3⟩
      · rw [(bcell q).1 T.p 2 lp, (bcell q).1 T.p 1 lp]
        exact ⟨c2, c1, HB5.out.step q⟩
      · have r2 := q1.nodes
        have r1 := TO.mgc (.inr q1)
        simp only at r1
        have r2' : u.cell? ⟨T2.p, 2, none⟩ = some (.slice (some ⟨T2.g, 0, none⟩) T2.N T2.cap) := r2
        have r1' : u.cell? ⟨T2.p, 1, none⟩ = some (.int .i64 T2.mg) := r1
        rw [hpT] at r1' r2'
        have em : T2.mg = T.mg := HC.out.af.mg
        rw [em] at r1'
        exact ⟨r2', r1', q3⟩))
    clear hC hN2 hfC c2 c1 B5 hTS hm0 hma h0 hq1 hq2
    have lpk := lp
    go_wp2_with fail
    refine wp_region_ph [(19, .free [])] (by kernel_rfl) (by kernel_rfl) ?_
    refine Ph.one 18 (fun u => Below w5.heap.size w5 u) (fun u => TN u { T2 with m := st T2.m a { T2.m a with fat := g } } ∧ Mod w5 u T2.p T2.g ∧ Box u gx [.int .i64 x.lo.x, .int .i64 x.lo.y, .int .i64 x.lo.z, .int .i64 x.hi.x, .int .i64 x.hi.y, .int .i64 x.hi.z] 35) (by rfl) (Below.refl _ _).drew ?_
    simp only [List.drop_succ_cons, List.drop_zero, List.take_succ_cons, List.take_zero, Nat.reduceSub, Nat.sub_zero]
    iterate 10 (refine SeqO.val1 (v := ?_) (by rfl) (by rfl) (fun w1 hS => ?_) ?_; rotate_left; (· obtain ⟨c2, c1, cb⟩ := CE.out w1 hS; go_simp; try with_reducible rfl); simp only [Act.put, List.setIfInBounds_toArray, List.set_cons_zero, List.set_cons_succ])
    refine SeqO.val1 (v := .agg [.int .i64 x.lo.x, .int .i64 x.lo.y, .int .i64 x.lo.z, .int .i64 x.hi.x, .int .i64 x.hi.y, .int .i64 x.hi.z].toArray) (by rfl) (by rfl) (fun u hS => run_load_row (by rfl) (by rfl) (CE.out u hS).2.2 Try.underlying35 (by rfl) (by kernel_rfl)) ?_
    simp only [Act.put, List.setIfInBounds_toArray, List.set_cons_zero, List.set_cons_succ]
    iterate 4 (refine SeqO.val1 (v := ?_) (by rfl) (by rfl) (fun w1 hS => ?_) ?_; rotate_left; (· obtain ⟨c2, c1, cb⟩ := CE.out w1 hS; go_simp; try with_reducible rfl); simp only [Act.put, List.setIfInBounds_toArray, List.set_cons_zero, List.set_cons_succ])
    refine SeqO.callv1 (v := .agg (bdv g).toArray) (by rfl) (by rfl) (by rfl) cf39 (by simp [Act.eval] <;> rfl) (fun u hR => ?_) ?_
    · refine (growC x T.mg u).mono ?_
      rintro e w' ⟨rfl, hS⟩
      rw [hg]
      exact ⟨rfl, fun h => h.trans (hS.mono h.size), fun h => ⟨h.1.step hS, h.2.1.trans (Mod.of_below hS), h.2.2.step hS⟩⟩
    simp only [Act.put, List.setIfInBounds_toArray, List.set_cons_zero, List.set_cons_succ]
    iterate 2 (refine SeqO.val1 (v := ?_) (by rfl) (by rfl) (fun w1 hS => ?_) ?_; rotate_left; (· obtain ⟨c2, c1, cb⟩ := CE.out w1 hS; go_simp; try with_reducible rfl); simp only [Act.put, List.setIfInBounds_toArray, List.set_cons_zero, List.set_cons_succ])
    refine SeqO.one (v := undef) (by rfl) (by rfl) (fun u hR K hK => ?_) ?_
    · have tu := HN.out.step hR
      refine wp_store_mid 35 (.tmp 67) (.tmp 65) (by rfl) T2.g (a * 17) (bdv g).toArray (by rfl) (by rfl) (TN.there tu HC.out.lt) (by kernel_rfl) (by simp [bdv, Value.oneCell']) (hK _ ⟨TN.putFat tu HC.out.lt _, Mod.cells _ _ _ (Mod.of_below hR), box_cells gx2 (bdv g) (a * 17) _ (HB5.out.step hR)⟩)
    simp only [Act.put, List.setIfInBounds_toArray, List.set_cons_zero, List.set_cons_succ]
    refine SeqO.nil1 (by decide) fun w6 hR2 => ?_
    refine Ph.last ?_
    simp only [List.drop_succ_cons, List.drop_zero, List.take_succ_cons, List.take_zero, Nat.reduceSub, Nat.sub_zero]
    obtain ⟨h6, m6, b6⟩ := hR2
    iterate 2 (with_reducible refine wpL_val (v := ?_) ?_ ?_ ?_; rotate_left; (· kernel_rfl); (· go_simp; try with_reducible rfl); conv => arg 5; simp only [Act.put, List.setIfInBounds_toArray, List.set_cons_zero, List.set_cons_succ])
    refine wpL_nf (T := { T2 with m := st T2.m a { T2.m a with fat := g } }) (k := a) (j := 13) (x := .tmp 69) (y := .const (.int .i64 (-1))) (n := -1) (z := { T2.m a with fat := g, u := -1 }) (by rfl) (by rfl) (by rfl) (by rfl) h6 HC.out.lt (by decide) (by simp only [st_at]; rfl) ?_
    intro w7 h7 m7
    refine wpList_nil ?_
    simp only [st_st] at h7
    have M7 := m6.trans m7
    have HX7 := HC.out.ts.tx.moved (m := st T2.m a { T2.m a with fat := g, u := -1 }) (t := T2.top) h7 M7
    have hC := HC.out
    have h0 := H0.out
    have ha2 : (a : Int) ∉ al2 := fun hm => hC.out (List.mem_append_left _ hm)
    have haF : (a : Int) ∉ F2 := fun hm => hC.out (List.mem_append_right _ hm)
    have hl2 : ∀ i ∈ lv2, i ≠ (a : Int) := fun i hi e => ha2 (by rw [← e]; exact lv_al hC.ts.sh i hi)
    have hat1 : T2.m a = { T.m a with b := x } := by rw [hC.at_]; exact st_at _ _ _
    have hleaf := (Shape.leafs h0.ts.sh _ hal).2
    have hTS7 : TS w7 { T2 with m := st T2.m a { T2.m a with fat := g, u := -1 } } F2 al2 lv2 b c pl (K + 2) :=
      ⟨HX7, Shape.frame hC.ts.sh fun i hi => st_ne fun e => ha2 (by rw [← e]; exact hi), hC.ts.nd, hC.ts.rng, hC.ts.n1, hC.ts.n2, hC.ts.n3⟩
    have hHG := hangC (T := { T2 with m := st T2.m a { T2.m a with fat := g, u := -1 } }) (a := a) w7 hTS7 (by omega) hC.lt haF ha2 (by
      simp only [st_at, hat1]
      exact ⟨trivial, hleaf.1, hleaf.2.1, by rw [← hg]; exact holds_grow nr.2 _⟩)
    have hHG2 : Calls Try.prog 40 #[.pointer (some ⟨T.p, 0, none⟩), .int .i64 (a : Int)] w7 fun e w' => e = .returned (.tuple #[]) ∧ ∃ T' F' al', TS w' T' F' al' ((a : Int) :: lv2) b c pl (K + 2 + 2) ∧ Aft w7 w' { T2 with m := st T2.m a { T2.m a with fat := g, u := -1 } } T' b ((a : Int) :: lv2) := by rw [← hpT]; exact hHG
    clear h6 m6 b6 m7 HB5 HB CE
    go_wp2_with fail
    refine hHG2.mono ?_
    clear hHG hHG2
    rintro e w8 ⟨rfl, T8, F8, al8, hT8, hA8⟩
    have FIN := Lib.hid (show ∃ S', TI w8 T.p T.mg (upd L ⟨n, x, g⟩) S' (K + 4) ∧ Aft2 w w8 (own T b) S' from by
      have e8 : ∀ i ∈ lv2, ent T8.m i = ent T.m i := fun i hi => by
        obtain ⟨q1, q2, q3⟩ := hA8.ent i (List.mem_cons_of_mem _ hi)
        obtain ⟨r1, r2, r3⟩ := hC.af.ent i (hC.lv.mem_iff.1 (List.mem_cons_of_mem _ hi))
        simp only [st_ne (hl2 i hi)] at q1 q2 q3 r1 r2 r3
        unfold ent; rw [q1, q2, q3, r1, r2, r3]
      have e8a : ent T8.m a = ⟨n, x, g⟩ := by
        obtain ⟨q1, q2, q3⟩ := hA8.ent a (List.mem_cons_self ..)
        simp only [st_at, hat1] at q1 q2 q3
        unfold ent; rw [q1, q2, q3, han]
      refine ⟨own T8 b, ⟨T8, F8, al8, (a : Int) :: lv2, b, c, pl, ⟨hT8, hA8.p.trans hC.af.p, hA8.mg.trans hC.af.mg, h0.mg0, upd_of h0 hC.lv han hn e8 e8a, upd_rise h0.rise hn, fun k i => ?_, fun e he => ?_, ?_⟩, rfl⟩, ?_⟩
      · rw [h0.pls k i, ← hC.lv.mem_iff]
        have q : ∀ i ∈ (a : Int) :: lv2, (T8.m i).n = (T.m i).n := fun i hi => by
          rcases List.mem_cons.1 hi with r | hi
          · have := congrArg En.n e8a
            rw [r]; exact this.trans han.symm
          · exact congrArg En.n (e8 i hi)
        constructor
        · rintro ⟨h1, h2⟩; exact ⟨h1, by rw [q i h1]; exact h2⟩
        · rintro ⟨h1, h2⟩; exact ⟨h1, by rw [← q i h1]; exact h2⟩
      · rcases upd_mem h0.rise hn he with q | q
        · rw [q]; exact nr.1
        · exact h0.rng e q
      · have := h0.cK; omega
      · have o2 : ∀ k, own T2 b k → own T b k ∨ w.heap.size ≤ k := fun k hk => (hC.af.ow k hk).imp id fun q => by have := HF5.out.size; omega
        have g5 := HF5.out.trans HFC.out fun j hj => .inl hj
        have g7 := g5.trans (Fr.of_mod (S := own T2 b) M7 (.inl rfl) (.inr (.inl rfl))) o2
        have g8 := g7.trans hA8.fr o2
        refine ⟨g8, fun k hk => ?_⟩
        rcases hA8.ow k hk with q | q
        · exact o2 k q
        · right; have := g7.size; omega)
    clear hT8 hA8 hTS7 HX7 h7 M7 HN HC HFC
    go_wp2_with fail
    all_goals exact bodyPost_ret (v := .tuple #[.bool true, .int .i64 0]) (by simp [results, Try.results20, go_sem, *]) rfl ⟨rfl, FIN.out⟩
/-- A bound set. -/
theorem setC {p K : Nat} {mg n : Int} {x : Bd} {L : List En} {S : Nat → Prop} (w : World) (h : TI w p mg L S K) (hK : K < 80000) :
    Calls Try.prog 20 #[.pointer (some ⟨p, 0, none⟩), .int .i64 n, .agg #[.int .i64 x.lo.x, .int .i64 x.lo.y, .int .i64 x.lo.z, .int .i64 x.hi.x, .int .i64 x.hi.y, .int .i64 x.hi.z]] w fun e w' => e = .returned (.tuple #[.bool (setM L n x), .int .i64 (setE L n x)]) ∧ ∃ S', TI w' p mg (setL mg L n x) S' (K + 4) ∧ Aft2 w w' S S' := by
  obtain ⟨T, F, al, lv, b, c, pl, h, rfl⟩ := h
  have hm : w.cell? ⟨p, 0, none⟩ = some (.bool true) := by have := TO.madec h.ts.tx.to; rw [h.p_] at this; exact this
  by_cases he : askS n x = 0
  · have nr := askS_zero he
    cases hn : isIn L n with
    | true =>
      have e5 : setE L n x = 0 := by unfold setE; rw [if_pos nr.1, if_pos nr.2, if_pos hn]
      have e6 : setL mg L n x = upd L ⟨n, x, if holds (fatOf L n) x then fatOf L n else grow x mg⟩ := by unfold setL; rw [if_pos e5]
      have e7 : setM L n x = !holds (fatOf L n) x := by unfold setM; rw [e5]; rfl
      rw [e5, e6, e7]
      obtain rfl := h.p_
      obtain rfl := h.mg_
      exact setIn w h hK he hn
    | false =>
      have e5 : setE L n x = 4 := by unfold setE; rw [if_pos nr.1, if_pos nr.2, hn]; rfl
      have e6 : setL mg L n x = L := by unfold setL; rw [if_neg (by rw [e5]; decide)]
      have e7 : setM L n x = false := by unfold setM; rw [e5]; rfl
      rw [e5, e6, e7]
      have h5 : w.cell? ⟨p, 5, none⟩ = some (.map (some b)) := by have := TO.mpc h.ts.tx.to; rw [h.p_, h.ts.tx.mp] at this; exact this
      refine (setNo w hm h.lt h5 h.ts.tx.vm he (h.look_out hn)).mono ?_
      rintro e w1 ⟨rfl, hS⟩
      exact ⟨rfl, own T b, ⟨T, F, al, lv, b, c, pl, (h.step hS).mono (by omega), rfl⟩, Aft2.of_below hS⟩
  · have e5 := setE_ask (L := L) he
    have e6 : setL mg L n x = L := by unfold setL; rw [if_neg (by rw [e5]; exact he)]
    have e7 : setM L n x = false := by unfold setM; rw [e5, decide_eq_false he]; rfl
    rw [e5, e6, e7]
    refine (setErr w hm h.lt he).mono ?_
    rintro e w1 ⟨rfl, hS⟩
    exact ⟨rfl, own T b, ⟨T, F, al, lv, b, c, pl, (h.step hS).mono (by omega), rfl⟩, Aft2.of_below hS⟩
end TSt
end Go.Proofs.Ytbcjnckejkjfeaa
