/- A phase in which new rows of cells are made and known parts of blocks are read. No condition. The places that the document takes: plain laws. No condition. All of a slice of spots appended to one of one's own: a law of lists of operations. Condition: the slice's cells are as told. The document's sums, differences and products of numbers: the walks. No condition. The document's differences of points, sums of products, vector products and squares; how far points are apart: the walks. No condition but the points' size. The document's limits of numbers and points, the lesser of two numbers, the first greatest of many: the walks. No condition but that the numbers fit. Slices of wide numbers, and those of one's own. No condition. The document's first greatest of many numbers: the walk. Condition: the slice's cells are as told, its numbers not too great. May spots be, by the document: the walk. Condition: the slice's cells are as told. The document's patch of spots: the walk. Condition: the slice's cells are as told. The law PatchOf: the walk. Condition: the slice's cells are as told. Arguments that are points and slices of spots, opened. No condition. An argument that is a slice of spots, opened; nil has no room. No condition. The patch of any spots is the document's, or refused. No condition. -/
import Derived.Test.YtbbiefgmlklafaaRegG
import Derived.Test.YtbbiefgmlklafaaMemQ
import Derived.Test.YtbbiefgmlklafaaPSo
import Derived.Test.YtbbiefgmlklafaaOwA
import Derived.Laws.AppendOwnNone
import Derived.Test.YtbbiefgmlklafaaRBit4
import Derived.Test.YtbbiefgmlklafaaGAr
import Derived.Test.YtbbiefgmlklafaaPGr
import Derived.Test.YtbbiefgmlklafaaPCk
import Derived.Test.YtbbiefgmlklafaaRows
import Derived.WalkKit
import Derived.ProofKit
import Derived.OpenShut
import Derived.ShutString
import Derived.ChangeOld
import Derived.Below
import Derived.Deep.Slices
import Derived.Deep.Fields
import Derived.Lib.SmallJoins
namespace Go.NP
open Go Go.RowKit
set_option linter.unusedSimpArgs false
set_option linter.unusedVariables false
section
variable {P : Program} {Q : Exit → Act → World → Prop} {ls es : List Nat} {Te : List (Nat × Option Tmp) → Act → Prop} {ops : Array Oper} {o : Oper} {r : List Oper} {acc : List (Nat × Option Tmp)} {a : Act} {i g k : Nat} {W w : World} {Pr : Kl} {l cs : List Value} {T ty : TypeId} {x y : Operand} {d : TypeDesc}
theorem SeqO.atG (ho : o.op = .load ty x) (hx : a.eval x = .pointer (some ⟨g, k, none⟩)) (hg : g < W.heap.size) (hB : At' W g k l) (hu : P.underlying ty = some d) (hd : (match d with | .struct _ | .array _ _ => true | _ => false) = true)
    (hsz : (P.info? ty).map (·.size) = some l.length) (hi : (!ls.contains i && !es.contains i && Pr.all fun e => e.1 != i) = true) (hw : Region.wanted o (yielded ops a.tmps) = true)
    (h2 : SeqO P ops Q (SG W Pr) ls es Te (i + 1) r acc (a.put o.dst (.agg l.toArray))) : SeqO P ops Q (SG W Pr) ls es Te i (o :: r) acc a :=
  SeqO.valG hi hw (fun w hb => run_load_part ho hx (hB.step hg hb) hu hd hsz) h2
/-- An operation that makes a new row of cells. -/
theorem SeqO.newG {B n : Nat} (hi : (ls.contains i && !es.contains i) = true) (hone : ∀ e ∈ Pr, e.1 = i → e.2 = newR B n l T) (hw : Region.wanted o (yielded ops a.tmps) = true)
    (h3 : ∀ w, (execOp a.eval o).run P w = .ok (.value (.slice (some ⟨w.heap.size, 0, none⟩) n n)) (w.alloc (.cells l.toArray T))) (hB : B ≤ W.heap.size) (h2 : SeqO P ops Q (SG W Pr) ls es Te (i + 1) r (acc ++ [(i, o.dst)]) a) : SeqO P ops Q (SG W Pr) ls es Te i (o :: r) acc a := by
  simp only [Bool.and_eq_true, Bool.not_eq_true'] at hi
  unfold SeqO
  rw [if_pos hi.1]
  unfold LooseOr
  rw [if_neg (by rw [hi.2]; simp)]
  refine ⟨fun L u w hL hS K' hK => ?_, h2⟩
  rw [if_pos hw]
  simp only [Oper.wp, h3, Oper.upon]
  refine hK _ _ (SG.fill (hS.step ((Below.refl _ _).alloc (Nat.le_refl _) _)) hone ⟨w.heap.size, rfl, Nat.le_trans hB hS.1.size, Box.new rfl⟩)
end
end Go.NP
namespace Go.Proofs.Ytbbiefgmlklafaa
set_option linter.unusedVariables false
set_option linter.unusedSimpArgs false
open Go.RowKit Go.NP
namespace RPl
open PGr PCk PCl PPl PSo
def isP (a b c : Nat) (i : Nat) : Bool := decide (i = 0 ∨ i = a ∨ i = b ∨ i = c)
def sel (a b c : Nat) (l : List Spo) (k : Nat) : List Spo := ((List.range k).filter (isP a b c)).map (nth l)
theorem sel_zero (a b c : Nat) (l : List Spo) : sel a b c l 0 = [] := rfl
theorem sel_yes {a b c : Nat} {l : List Spo} {k : Nat} (h : k = 0 ∨ k = a ∨ k = b ∨ k = c) : sel a b c l (k + 1) = sel a b c l k ++ [nth l k] := by
  unfold sel
  rw [List.range_succ, List.filter_append, List.map_append]
  congr 1
  have : isP a b c k = true := decide_eq_true h
  simp [this]
theorem sel_no {a b c : Nat} {l : List Spo} {k : Nat} (h : ¬ (k = 0 ∨ k = a ∨ k = b ∨ k = c)) : sel a b c l (k + 1) = sel a b c l k := by
  unfold sel
  rw [List.range_succ, List.filter_append, List.map_append]
  have : isP a b c k = false := decide_eq_false h
  simp [this]
theorem sel_len (a b c : Nat) (l : List Spo) (k : Nat) : (sel a b c l k).length ≤ k := by
  unfold sel
  rw [List.length_map]
  exact Nat.le_trans (List.length_filter_le _ _) (by simp)
theorem uniq : ∀ l m : List Int, l.Pairwise (· < ·) → m.Pairwise (· < ·) → (∀ x, x ∈ l ↔ x ∈ m) → l = m
  | [], [], _, _, _ => rfl
  | [], y :: m, _, _, h => by have := (h y).2 (List.mem_cons_self ..); cases this
  | x :: l, [], _, _, h => by have := (h x).1 (List.mem_cons_self ..); cases this
  | x :: l, y :: m, hl, hm, h => by
    obtain ⟨hx, hl2⟩ := List.pairwise_cons.1 hl
    obtain ⟨hy, hm2⟩ := List.pairwise_cons.1 hm
    have e : x = y := by
      rcases List.mem_cons.1 ((h x).1 (List.mem_cons_self ..)) with e | h1
      · exact e
      · rcases List.mem_cons.1 ((h y).2 (List.mem_cons_self ..)) with e | h2
        · exact e.symm
        · have := hx y h2; have := hy x h1; omega
    subst e
    have hq : ∀ z, z ∈ l ↔ z ∈ m := fun z => by
      constructor
      · intro hz
        rcases List.mem_cons.1 ((h z).1 (List.mem_cons_of_mem _ hz)) with e | h1
        · have := hx z hz; omega
        · exact h1
      · intro hz
        rcases List.mem_cons.1 ((h z).2 (List.mem_cons_of_mem _ hz)) with e | h1
        · have := hy z hz; omega
        · exact h1
    rw [uniq l m hl2 hm2 hq]
theorem sel_all {l : List Spo} (hl : l ≠ []) : sel (at1 l) (at2 l) (at3 l) l l.length = (places l).map fun i => nth l i.toNat := by
  obtain ⟨h1, h2, h3⟩ := at_lt hl
  have hp : 0 < l.length := List.length_pos_iff.2 hl
  have e : places l = ((List.range l.length).filter (isP (at1 l) (at2 l) (at3 l))).map Int.ofNat := by
    refine uniq _ _ (places_lt l) ?_ fun x => ?_
    · rw [List.pairwise_map]
      exact (List.pairwise_lt_range.filter _).imp fun h => by simpa using h
    · rw [List.mem_map]
      constructor
      · intro hx
        have hm := places_mem hx
        refine ⟨x.toNat, List.mem_filter.2 ⟨List.mem_range.2 (by omega), decide_eq_true (by omega)⟩, ?_⟩
        show ((x.toNat : Nat) : Int) = x
        omega
      · rintro ⟨i, hi, rfl⟩
        have hq := of_decide_eq_true (List.mem_filter.1 hi).2
        refine places_in ?_
        show ((i : Nat) : Int) = 0 ∨ ((i : Nat) : Int) = at1 l ∨ ((i : Nat) : Int) = at2 l ∨ ((i : Nat) : Int) = at3 l
        omega
  rw [e, List.map_map]
  rfl
theorem lesser_is (x y z : Int) : (if x < (if y < z then y else z) then x else (if y < z then y else z)) = least (least x y) z := by
  unfold least
  by_cases a : y < z <;> by_cases b : y < x <;> simp only [a, b, if_true, if_false] <;> (split <;> split <;> omega)
end RPl
end Go.Proofs.Ytbbiefgmlklafaa
namespace Go.Proofs.Ytbbiefgmlklafaa
set_option linter.unusedVariables false
set_option linter.unusedSimpArgs false
open Go.RowKit Go.NP
/-- A slice of spots, nil only where it has no room. -/
def SlC (w : World) (A : Option Addr) (n cap : Nat) (l : List Spo) : Prop := SlS w A n l ∧ (A = none → cap = 0)
theorem wpL_all {ops : Array Oper} {r : List Oper} {o : Oper} {a : Act} {Q : Exit → Act → World → Prop} {w : World} {base : Nat} {v : Value} {m l : List Spo} {A : Option Addr} {n cap : Nat} (hgd : o.guard = none) (s x : Operand)
    (ho : o.op = .call { callee := .builtin .append, args := #[s, x], argTypes := #[22, 22] }) (hs : a.eval s = v) (hown : OwnS w base v m) (hx : a.eval x = .slice A n cap) (hl : SlC w A n cap l) (hm : m.length ≤ 100000) (hn : n ≤ 100000) (hb : base ≤ w.heap.size)
    (h : ∀ v' w', OwnS w' base v' (m ++ l) → (∀ w0, Below base w0 w → Below base w0 w') → wpList Try.prog ops Q r (a.put o.dst v') w') : wpList Try.prog ops Q (o :: r) a w := by
  obtain ⟨i0, hi0, hz0, hz1, hz2⟩ := info_parts infoSt
  cases A with
  | some ad =>
    have hll := hl.1.1
    refine wpList_append_own _ hgd s x 22 ho base 32 i0 (.agg #[.int .i64 0, .int .i64 0, .int .i64 0, .int .i64 0, .int .i64 0]) 5 40 Try.underlying22 hi0 hz0 hz1 hz2 rfl (by decide) v m.length (spvs m) hs hown ad n cap (spvs l) hx (by rw [spvs_len, hll]) (PCn.SlS.news hl.1) spvs_one (by unfold maxLen; omega) (by omega) hb ?_
    intro v' w' h1 h2 _
    refine h v' w' ?_ fun w0 hB => hB.grown h2 hb fun k hk => ownBlock_ge hown k hk
    unfold OwnS
    rw [spvs_append, List.length_append, hll]
    exact h1
  | none =>
    have hc := hl.2 rfl
    have h0 : l = [] := by
      rcases Nat.eq_zero_or_pos n with h0 | h0
      · exact List.eq_nil_of_length_eq_zero (by rw [hl.1.1]; exact h0)
      · obtain ⟨_, _, e, _⟩ := hl.1.2 h0; cases e
    subst h0
    have hn0 : n = 0 := hl.1.1.symm
    subst hc; subst hn0
    refine wpList_append_own_none hgd s x 22 ho base 32 i0 5 Try.underlying22 hi0 v m.length (spvs m) hs hown hx ?_
    exact h v w (by rw [List.append_nil]; exact hown) (fun w0 hB => hB)
end Go.Proofs.Ytbbiefgmlklafaa
namespace Go.Proofs.Ytbbiefgmlklafaa
set_option linter.unusedVariables false
set_option linter.unusedSimpArgs false
open Go.RowKit Go.NP
namespace PRa
set_option maxRecDepth 100000 in
set_option maxHeartbeats 2000000 in
theorem subB {x y : Int} (hx : fits x) (hy : fits y) (hxy : fits (x - y)) (w : World) : RetB Try.prog 88 #[.agg #[.int .u64 (w8 x).a, .int .u64 (w8 x).b, .int .u64 (w8 x).c, .int .u64 (w8 x).d, .int .u64 (w8 x).e, .int .u64 (w8 x).f, .int .u64 (w8 x).g, .int .u64 (w8 x).h], .agg #[.int .u64 (w8 y).a, .int .u64 (w8 y).b, .int .u64 (w8 y).c, .int .u64 (w8 y).d, .int .u64 (w8 y).e, .int .u64 (w8 y).f, .int .u64 (w8 y).g, .int .u64 (w8 y).h]] w (.tuple #[.agg #[.int .u64 (w8 (x - y)).a, .int .u64 (w8 (x - y)).b, .int .u64 (w8 (x - y)).c, .int .u64 (w8 (x - y)).d, .int .u64 (w8 (x - y)).e, .int .u64 (w8 (x - y)).f, .int .u64 (w8 (x - y)).g, .int .u64 (w8 (x - y)).h], .bool true]) := by
  have HX := Lib.hid hx; have HY := Lib.hid hy; have HXY := Lib.hid hxy
  clear hx hy hxy
  unfold RetB
  go_enter Try.func88, Try.ntmps88
  go_wp2
  refine wp_region_ph [(3, .free [1]), (7, .seq), (9, .free [])] (by kernel_rfl) (by kernel_rfl) ?_
  refine Ph.gend [(1, newR (w.heap.size + 1 + 1 + 1) 520 (iv (bitsL x 520)) 3)] (by rfl) ?_
  simp only [List.drop_succ_cons, List.drop_zero, List.take_succ_cons, List.take_zero, Nat.reduceSub, Nat.sub_zero]
  iterate 1 (refine SeqO.valG (v := ?_) (by rfl) (by rfl) (fun w1 hS => ?_) ?_; rotate_left; (· obtain ⟨hc, hcf⟩ := bcell hS; go_simp; try with_reducible rfl); simp only [Act.put, List.setIfInBounds_toArray, List.set_cons_zero, List.set_cons_succ])
  refine SeqO.callG (newR (w.heap.size + 1 + 1 + 1) 520 (iv (bitsL x 520)) 3) (by rfl) (by simp) (by rfl) (by rfl) cf69 (by simp [Act.eval]) (fun w1 hS => (longB HX.out w1).more (by have := hS.size; simp at this; omega)) ?_
  iterate 1 (refine SeqO.valG (v := ?_) (by rfl) (by rfl) (fun w1 hS => ?_) ?_; rotate_left; (· obtain ⟨hc, hcf⟩ := bcell hS; go_simp; try with_reducible rfl); simp only [Act.put, List.setIfInBounds_toArray, List.set_cons_zero, List.set_cons_succ])
  refine SeqO.nilG (by rfl) fun u w1 hS hK => ?_
  obtain ⟨g1, hg1, hge1, hB1⟩ := hK _ (List.mem_cons_self ..)
  clear hK
  simp only [List.nil_append, List.cons_append, List.foldl_cons, List.foldl_nil, hg1]
  clear hg1
  have hge1 : w.heap.size + 1 + 1 + 1 ≤ g1 := hge1
  have hB1 : Box w1 g1 (iv (bitsL x 520)) 3 := hB1
  have hA : Box w1 (w.heap.size + 1) [.int .u64 (w8 y).a, .int .u64 (w8 y).b, .int .u64 (w8 y).c, .int .u64 (w8 y).d, .int .u64 (w8 y).e, .int .u64 (w8 y).f, .int .u64 (w8 y).g, .int .u64 (w8 y).h] 37 := ((Box.new (by simp)).alloc _).step hS
  have hR : Box w1 (w.heap.size + 1 + 1) [.int .u64 0, .int .u64 0, .int .u64 0, .int .u64 0, .int .u64 0, .int .u64 0, .int .u64 0, .int .u64 0] 37 := (Box.new (by simp)).step hS
  have hW : Below w.heap.size w w1 := ((((Below.refl _ _).alloc (Nat.le_refl _) _).alloc (by simp) _).alloc (by simp; omega) _).trans (hS.mono (by simp; omega))
  clear hS
  refine Ph.list ?_
  simp only [List.drop_succ_cons, List.drop_zero, List.take_succ_cons, List.take_zero, Nat.reduceSub, Nat.sub_zero]
  go_wp2_with fail
  refine Calls.mono (longB HY.out _) ?_
  rintro e w2 ⟨_, rfl, ⟨g2, rfl, hge2, hB2⟩, hS⟩
  have hB1 := hB1.step hS
  have hR := hR.step hS
  have hW := hW.trans (hS.mono hW.size)
  clear hS hA hge2
  go_wp2_with fail
  refine Calls.mono (minusB y 520 g2 (by omega) _ hB2) ?_
  rintro e w2' ⟨_, rfl, ⟨g2', rfl, hge2', hB2'⟩, hS⟩
  have hB1 := hB1.step hS
  have hR := hR.step hS
  have hW := hW.trans (hS.mono hW.size)
  clear hS hB2 hge2'
  go_wp2_with fail
  refine Calls.mono (plusB x (-y) 520 g1 g2' (by omega) _ hB1 hB2') ?_
  rintro e w3 ⟨_, rfl, ⟨g3, rfl, hge3, hB3⟩, hS⟩
  have hR := hR.step hS
  have hW := hW.trans (hS.mono hW.size)
  clear hS hB1 hB2' hge3
  go_wp2_with fail
  rw [← Int.sub_eq_add_neg] at hB3
  refine Calls.mono (ofB HXY.out 520 g3 (by omega) (by omega) _ hB3) ?_
  rintro e w4 ⟨rfl, hS⟩
  have hR := hR.step hS
  have hW := hW.trans (hS.mono hW.size)
  clear hS hB3
  go_wp2_with fail
  refine Ph.below ?_
  simp only [List.drop_succ_cons, List.drop_zero, List.take_succ_cons, List.take_zero, Nat.reduceSub, Nat.sub_zero]
  iterate 2 (refine SeqO.val (v := ?_) (by rfl) (by rfl) (fun w1 hS => ?_) ?_; rotate_left; (· obtain ⟨hc, hcf⟩ := bcell hS; go_simp; try with_reducible rfl); simp only [Act.put, List.setIfInBounds_toArray, List.set_cons_zero, List.set_cons_succ])
  refine SeqO.nil0 fun w5 hS => ?_
  have hR := hR.step hS
  have hW := hW.trans (hS.mono hW.size)
  clear hS
  refine Ph.last ?_
  simp only [List.drop_succ_cons, List.drop_zero, List.take_succ_cons, List.take_zero, Nat.reduceSub, Nat.sub_zero]
  have q0 := (hR).cell 0; have q1 := (hR).cell 1; have q2 := (hR).cell 2; have q3 := (hR).cell 3; have q4 := (hR).cell 4; have q5 := (hR).cell 5; have q6 := (hR).cell 6; have q7 := (hR).cell 7; have qf := (hR).free
  simp only [List.getElem?_cons_zero, List.getElem?_cons_succ] at q0 q1 q2 q3 q4 q5 q6 q7
  have l0 := hR.lt
  go_wp2
  exact bodyPost_ret (v := .tuple #[.agg #[.int .u64 (w8 (x - y)).a, .int .u64 (w8 (x - y)).b, .int .u64 (w8 (x - y)).c, .int .u64 (w8 (x - y)).d, .int .u64 (w8 (x - y)).e, .int .u64 (w8 (x - y)).f, .int .u64 (w8 (x - y)).g, .int .u64 (w8 (x - y)).h], .bool true]) (by simp [results, Try.results88, go_sem, *]) rfl ⟨rfl, ((((((((hW).setCell (by first | omega | (simp; done) | (simp; omega)) _).setCell (by first | omega | (simp; done) | (simp; omega)) _).setCell (by first | omega | (simp; done) | (simp; omega)) _).setCell (by first | omega | (simp; done) | (simp; omega)) _).setCell (by first | omega | (simp; done) | (simp; omega)) _).setCell (by first | omega | (simp; done) | (simp; omega)) _).setCell (by first | omega | (simp; done) | (simp; omega)) _).setCell (by first | omega | (simp; done) | (simp; omega)) _⟩
theorem i63_mid {x : Int} (h : i63 x) : mid x := by
  obtain ⟨h0, h1⟩ := h
  have := p2_mono (i := 63) (j := 250) (by omega)
  have e : (2 : Int) ^ 63 = 9223372036854775808 := by decide
  exact ⟨by omega, by omega⟩
theorem below_alloc {W w : World} (h : Below W.heap.size W w) (o : Obj) : Below W.heap.size W (w.alloc o) := h.alloc h.size o
set_option maxHeartbeats 2000000 in
theorem plusW {x y : Int} (hx : fits x) (hy : fits y) (hxy : fits (x + y)) (w : World) : RetB Try.prog 66 #[.agg #[.int .u64 (w8 x).a, .int .u64 (w8 x).b, .int .u64 (w8 x).c, .int .u64 (w8 x).d, .int .u64 (w8 x).e, .int .u64 (w8 x).f, .int .u64 (w8 x).g, .int .u64 (w8 x).h], .agg #[.int .u64 (w8 y).a, .int .u64 (w8 y).b, .int .u64 (w8 y).c, .int .u64 (w8 y).d, .int .u64 (w8 y).e, .int .u64 (w8 y).f, .int .u64 (w8 y).g, .int .u64 (w8 y).h]] w (.agg #[.int .u64 (w8 (x + y)).a, .int .u64 (w8 (x + y)).b, .int .u64 (w8 (x + y)).c, .int .u64 (w8 (x + y)).d, .int .u64 (w8 (x + y)).e, .int .u64 (w8 (x + y)).f, .int .u64 (w8 (x + y)).g, .int .u64 (w8 (x + y)).h]) := by
  have H := Lib.hid (fun w => addB hx hy hxy w)
  clear hx hy hxy
  unfold RetB
  go_enter Try.func66, Try.ntmps66
  go_wp2_with fail
  refine (H.out _).mono ?_
  rintro e w1 ⟨rfl, hS⟩
  have hR : Box w1 (w.heap.size + 1 + 1) [.int .u64 0, .int .u64 0, .int .u64 0, .int .u64 0, .int .u64 0, .int .u64 0, .int .u64 0, .int .u64 0] 37 := (Box.new (by simp)).step hS
  have hW : Below w.heap.size w w1 := ((((Below.refl _ _).alloc (Nat.le_refl _) _).alloc (by simp) _).alloc (by simp; omega) _).trans (hS.mono (by simp; omega))
  have l0 := hR.lt
  have q0 := (hR).cell 0; have q1 := (hR).cell 1; have q2 := (hR).cell 2; have q3 := (hR).cell 3; have q4 := (hR).cell 4; have q5 := (hR).cell 5; have q6 := (hR).cell 6; have q7 := (hR).cell 7; have qf := (hR).free
  simp only [List.getElem?_cons_zero, List.getElem?_cons_succ] at q0 q1 q2 q3 q4 q5 q6 q7
  clear hS
  go_wp2
  exact bodyPost_ret (v := .agg #[.int .u64 (w8 (x + y)).a, .int .u64 (w8 (x + y)).b, .int .u64 (w8 (x + y)).c, .int .u64 (w8 (x + y)).d, .int .u64 (w8 (x + y)).e, .int .u64 (w8 (x + y)).f, .int .u64 (w8 (x + y)).g, .int .u64 (w8 (x + y)).h]) (by simp [results, Try.results66, go_sem, *]) rfl ⟨rfl, below_alloc (((((((((hW).setCell (by first | omega | (simp; done) | (simp; omega)) _).setCell (by first | omega | (simp; done) | (simp; omega)) _).setCell (by first | omega | (simp; done) | (simp; omega)) _).setCell (by first | omega | (simp; done) | (simp; omega)) _).setCell (by first | omega | (simp; done) | (simp; omega)) _).setCell (by first | omega | (simp; done) | (simp; omega)) _).setCell (by first | omega | (simp; done) | (simp; omega)) _).setCell (by first | omega | (simp; done) | (simp; omega)) _) _⟩
set_option maxHeartbeats 2000000 in
theorem timesW {x y : Int} (hx : mid x) (hy : mid y) (w : World) : RetB Try.prog 86 #[.agg #[.int .u64 (w8 x).a, .int .u64 (w8 x).b, .int .u64 (w8 x).c, .int .u64 (w8 x).d, .int .u64 (w8 x).e, .int .u64 (w8 x).f, .int .u64 (w8 x).g, .int .u64 (w8 x).h], .agg #[.int .u64 (w8 y).a, .int .u64 (w8 y).b, .int .u64 (w8 y).c, .int .u64 (w8 y).d, .int .u64 (w8 y).e, .int .u64 (w8 y).f, .int .u64 (w8 y).g, .int .u64 (w8 y).h]] w (.agg #[.int .u64 (w8 (x * y)).a, .int .u64 (w8 (x * y)).b, .int .u64 (w8 (x * y)).c, .int .u64 (w8 (x * y)).d, .int .u64 (w8 (x * y)).e, .int .u64 (w8 (x * y)).f, .int .u64 (w8 (x * y)).g, .int .u64 (w8 (x * y)).h]) := by
  have H := Lib.hid (fun w => mulB hx hy w)
  clear hx hy
  unfold RetB
  go_enter Try.func86, Try.ntmps86
  go_wp2_with fail
  refine (H.out _).mono ?_
  rintro e w1 ⟨rfl, hS⟩
  have hR : Box w1 (w.heap.size + 1 + 1) [.int .u64 0, .int .u64 0, .int .u64 0, .int .u64 0, .int .u64 0, .int .u64 0, .int .u64 0, .int .u64 0] 37 := (Box.new (by simp)).step hS
  have hW : Below w.heap.size w w1 := ((((Below.refl _ _).alloc (Nat.le_refl _) _).alloc (by simp) _).alloc (by simp; omega) _).trans (hS.mono (by simp; omega))
  have l0 := hR.lt
  have q0 := (hR).cell 0; have q1 := (hR).cell 1; have q2 := (hR).cell 2; have q3 := (hR).cell 3; have q4 := (hR).cell 4; have q5 := (hR).cell 5; have q6 := (hR).cell 6; have q7 := (hR).cell 7; have qf := (hR).free
  simp only [List.getElem?_cons_zero, List.getElem?_cons_succ] at q0 q1 q2 q3 q4 q5 q6 q7
  clear hS
  go_wp2
  exact bodyPost_ret (v := .agg #[.int .u64 (w8 (x * y)).a, .int .u64 (w8 (x * y)).b, .int .u64 (w8 (x * y)).c, .int .u64 (w8 (x * y)).d, .int .u64 (w8 (x * y)).e, .int .u64 (w8 (x * y)).f, .int .u64 (w8 (x * y)).g, .int .u64 (w8 (x * y)).h]) (by simp [results, Try.results86, go_sem, *]) rfl ⟨rfl, below_alloc (((((((((hW).setCell (by first | omega | (simp; done) | (simp; omega)) _).setCell (by first | omega | (simp; done) | (simp; omega)) _).setCell (by first | omega | (simp; done) | (simp; omega)) _).setCell (by first | omega | (simp; done) | (simp; omega)) _).setCell (by first | omega | (simp; done) | (simp; omega)) _).setCell (by first | omega | (simp; done) | (simp; omega)) _).setCell (by first | omega | (simp; done) | (simp; omega)) _).setCell (by first | omega | (simp; done) | (simp; omega)) _) _⟩
set_option maxHeartbeats 2000000 in
theorem mulW {x y : Int} (hx : i63 x) (hy : i63 y) (w : World) : RetB Try.prog 67 #[.int .i64 x, .int .i64 y] w (.agg #[.int .u64 (w8 (x * y)).a, .int .u64 (w8 (x * y)).b, .int .u64 (w8 (x * y)).c, .int .u64 (w8 (x * y)).d, .int .u64 (w8 (x * y)).e, .int .u64 (w8 (x * y)).f, .int .u64 (w8 (x * y)).g, .int .u64 (w8 (x * y)).h]) := by
  have H1 := Lib.hid (fun w => smallB hx w)
  have H2 := Lib.hid (fun w => smallB hy w)
  have H := Lib.hid (fun w => timesW (i63_mid hx) (i63_mid hy) w)
  clear hx hy
  unfold RetB
  go_enter Try.func67, Try.ntmps67
  go_wp2_with fail
  refine (H1.out _).mono ?_
  rintro e w1 ⟨rfl, hS⟩
  have hR : Box w1 w.heap.size [.int .u64 0, .int .u64 0, .int .u64 0, .int .u64 0, .int .u64 0, .int .u64 0, .int .u64 0, .int .u64 0] 37 := (Box.new rfl).step hS
  have hW : Below w.heap.size w w1 := ((Below.refl _ _).alloc (Nat.le_refl _) _).trans (hS.mono (by simp))
  clear hS
  go_wp2_with fail
  refine (H2.out _).mono ?_
  rintro e w2 ⟨rfl, hS⟩
  have hR := hR.step hS
  have hW := hW.trans (hS.mono hW.size)
  clear hS
  go_wp2_with fail
  refine (H.out _).mono ?_
  rintro e w3 ⟨rfl, hS⟩
  have hR := hR.step hS
  have hW := hW.trans (hS.mono hW.size)
  clear hS
  have l0 := hR.lt
  have q0 := (hR).cell 0; have q1 := (hR).cell 1; have q2 := (hR).cell 2; have q3 := (hR).cell 3; have q4 := (hR).cell 4; have q5 := (hR).cell 5; have q6 := (hR).cell 6; have q7 := (hR).cell 7; have qf := (hR).free
  simp only [List.getElem?_cons_zero, List.getElem?_cons_succ] at q0 q1 q2 q3 q4 q5 q6 q7
  go_wp2
  exact bodyPost_ret (v := .agg #[.int .u64 (w8 (x * y)).a, .int .u64 (w8 (x * y)).b, .int .u64 (w8 (x * y)).c, .int .u64 (w8 (x * y)).d, .int .u64 (w8 (x * y)).e, .int .u64 (w8 (x * y)).f, .int .u64 (w8 (x * y)).g, .int .u64 (w8 (x * y)).h]) (by simp [results, Try.results67, go_sem, *]) rfl ⟨rfl, ((((((((hW).setCell (by first | omega | (simp; done) | (simp; omega)) _).setCell (by first | omega | (simp; done) | (simp; omega)) _).setCell (by first | omega | (simp; done) | (simp; omega)) _).setCell (by first | omega | (simp; done) | (simp; omega)) _).setCell (by first | omega | (simp; done) | (simp; omega)) _).setCell (by first | omega | (simp; done) | (simp; omega)) _).setCell (by first | omega | (simp; done) | (simp; omega)) _).setCell (by first | omega | (simp; done) | (simp; omega)) _⟩
set_option maxHeartbeats 2000000 in
theorem lessW {x y : Int} (hx : fits x) (hy : fits y) (hxy : fits (x - y)) (w : World) : RetB Try.prog 73 #[.agg #[.int .u64 (w8 x).a, .int .u64 (w8 x).b, .int .u64 (w8 x).c, .int .u64 (w8 x).d, .int .u64 (w8 x).e, .int .u64 (w8 x).f, .int .u64 (w8 x).g, .int .u64 (w8 x).h], .agg #[.int .u64 (w8 y).a, .int .u64 (w8 y).b, .int .u64 (w8 y).c, .int .u64 (w8 y).d, .int .u64 (w8 y).e, .int .u64 (w8 y).f, .int .u64 (w8 y).g, .int .u64 (w8 y).h]] w (.agg #[.int .u64 (w8 (x - y)).a, .int .u64 (w8 (x - y)).b, .int .u64 (w8 (x - y)).c, .int .u64 (w8 (x - y)).d, .int .u64 (w8 (x - y)).e, .int .u64 (w8 (x - y)).f, .int .u64 (w8 (x - y)).g, .int .u64 (w8 (x - y)).h]) := by
  have H := Lib.hid (fun w => subB hx hy hxy w)
  clear hx hy hxy
  unfold RetB
  go_enter Try.func73, Try.ntmps73
  go_wp2_with fail
  refine (H.out _).mono ?_
  rintro e w1 ⟨rfl, hS⟩
  have hR : Box w1 (w.heap.size + 1 + 1) [.int .u64 0, .int .u64 0, .int .u64 0, .int .u64 0, .int .u64 0, .int .u64 0, .int .u64 0, .int .u64 0] 37 := (Box.new (by simp)).step hS
  have hW : Below w.heap.size w w1 := ((((Below.refl _ _).alloc (Nat.le_refl _) _).alloc (by simp) _).alloc (by simp; omega) _).trans (hS.mono (by simp; omega))
  have l0 := hR.lt
  have q0 := (hR).cell 0; have q1 := (hR).cell 1; have q2 := (hR).cell 2; have q3 := (hR).cell 3; have q4 := (hR).cell 4; have q5 := (hR).cell 5; have q6 := (hR).cell 6; have q7 := (hR).cell 7; have qf := (hR).free
  simp only [List.getElem?_cons_zero, List.getElem?_cons_succ] at q0 q1 q2 q3 q4 q5 q6 q7
  clear hS
  go_wp2
  exact bodyPost_ret (v := .agg #[.int .u64 (w8 (x - y)).a, .int .u64 (w8 (x - y)).b, .int .u64 (w8 (x - y)).c, .int .u64 (w8 (x - y)).d, .int .u64 (w8 (x - y)).e, .int .u64 (w8 (x - y)).f, .int .u64 (w8 (x - y)).g, .int .u64 (w8 (x - y)).h]) (by simp [results, Try.results73, go_sem, *]) rfl ⟨rfl, below_alloc (((((((((hW).setCell (by first | omega | (simp; done) | (simp; omega)) _).setCell (by first | omega | (simp; done) | (simp; omega)) _).setCell (by first | omega | (simp; done) | (simp; omega)) _).setCell (by first | omega | (simp; done) | (simp; omega)) _).setCell (by first | omega | (simp; done) | (simp; omega)) _).setCell (by first | omega | (simp; done) | (simp; omega)) _).setCell (by first | omega | (simp; done) | (simp; omega)) _).setCell (by first | omega | (simp; done) | (simp; omega)) _) _⟩
end PRa
end Go.Proofs.Ytbbiefgmlklafaa
namespace Go.Proofs.Ytbbiefgmlklafaa
set_option linter.unusedVariables false
set_option linter.unusedSimpArgs false
open Go.RowKit Go.NP
namespace PRb
theorem cf66 (args : Array Value) (w1 : World) : (callFunc 66 args).run Try.prog w1 = .ok (.enter 66 args) w1 := enters Try.func66 (by kernel_rfl) (by kernel_rfl) args w1
theorem cf73 (args : Array Value) (w1 : World) : (callFunc 73 args).run Try.prog w1 = .ok (.enter 73 args) w1 := enters Try.func73 (by kernel_rfl) (by kernel_rfl) args w1
theorem cf86 (args : Array Value) (w1 : World) : (callFunc 86 args).run Try.prog w1 = .ok (.enter 86 args) w1 := enters Try.func86 (by kernel_rfl) (by kernel_rfl) args w1
theorem cf67 (args : Array Value) (w1 : World) : (callFunc 67 args).run Try.prog w1 = .ok (.enter 67 args) w1 := enters Try.func67 (by kernel_rfl) (by kernel_rfl) args w1
theorem cf39 (args : Array Value) (w1 : World) : (callFunc 39 args).run Try.prog w1 = .ok (.enter 39 args) w1 := enters Try.func39 (by kernel_rfl) (by kernel_rfl) args w1
theorem cf43 (args : Array Value) (w1 : World) : (callFunc 43 args).run Try.prog w1 = .ok (.enter 43 args) w1 := enters Try.func43 (by kernel_rfl) (by kernel_rfl) args w1
theorem cf42 (args : Array Value) (w1 : World) : (callFunc 42 args).run Try.prog w1 = .ok (.enter 42 args) w1 := enters Try.func42 (by kernel_rfl) (by kernel_rfl) args w1
theorem cf71 (args : Array Value) (w1 : World) : (callFunc 71 args).run Try.prog w1 = .ok (.enter 71 args) w1 := enters Try.func71 (by kernel_rfl) (by kernel_rfl) args w1
theorem cf72 (args : Array Value) (w1 : World) : (callFunc 72 args).run Try.prog w1 = .ok (.enter 72 args) w1 := enters Try.func72 (by kernel_rfl) (by kernel_rfl) args w1
open GCr GAr PRa
set_option maxHeartbeats 2000000 in
theorem sub7C (a b : Pt) (ha : a.ok) (hb : b.ok) (w : World) : RetB Try.prog 39 #[.agg #[.int .i64 a.x, .int .i64 a.y, .int .i64 a.z], .agg #[.int .i64 b.x, .int .i64 b.y, .int .i64 b.z]] w (.agg #[.int .i64 (PSp.psub a b).x, .int .i64 (PSp.psub a b).y, .int .i64 (PSp.psub a b).z]) := by
  obtain ⟨⟨a1, a2⟩, ⟨a3, a4⟩, a5, a6⟩ := ha
  obtain ⟨⟨b1, b2⟩, ⟨b3, b4⟩, b5, b6⟩ := hb
  unfold RetB
  go_enter Try.func39, Try.ntmps39
  go_wp2
  refine bodyPost_ret (v := .agg #[.int .i64 (PSp.psub a b).x, .int .i64 (PSp.psub a b).y, .int .i64 (PSp.psub a b).z]) (by simp [results, Try.results39, go_sem]; exact ⟨rfl, rfl, rfl⟩) rfl ⟨rfl, ?_⟩
  exact ((((Below.refl _ _).alloc (Nat.le_refl _) _).alloc (by simp) _).alloc (by simp; omega) _)
set_option maxHeartbeats 2000000 in
theorem plus15C {x y : Int} (hx : fits x) (hy : fits y) (hxy : fits (x + y)) (w : World) : RetB Try.prog 71 #[.agg #[.int .u64 (w8 x).a, .int .u64 (w8 x).b, .int .u64 (w8 x).c, .int .u64 (w8 x).d, .int .u64 (w8 x).e, .int .u64 (w8 x).f, .int .u64 (w8 x).g, .int .u64 (w8 x).h], .agg #[.int .u64 (w8 y).a, .int .u64 (w8 y).b, .int .u64 (w8 y).c, .int .u64 (w8 y).d, .int .u64 (w8 y).e, .int .u64 (w8 y).f, .int .u64 (w8 y).g, .int .u64 (w8 y).h]] w (.agg #[.int .u64 (w8 (x + y)).a, .int .u64 (w8 (x + y)).b, .int .u64 (w8 (x + y)).c, .int .u64 (w8 (x + y)).d, .int .u64 (w8 (x + y)).e, .int .u64 (w8 (x + y)).f, .int .u64 (w8 (x + y)).g, .int .u64 (w8 (x + y)).h]) := by
  have H := Lib.hid (fun w => plusW hx hy hxy w)
  clear hx hy hxy
  unfold RetB
  go_enter Try.func71, Try.ntmps71
  go_wp2_with fail
  refine (H.out _).mono ?_
  rintro e w1 ⟨rfl, hS⟩
  have hR : Box w1 (w.heap.size + 1 + 1) [.int .u64 0, .int .u64 0, .int .u64 0, .int .u64 0, .int .u64 0, .int .u64 0, .int .u64 0, .int .u64 0] 37 := (Box.new (by simp)).step hS
  have hW : Below w.heap.size w w1 := ((((Below.refl _ _).alloc (Nat.le_refl _) _).alloc (by simp) _).alloc (by simp; omega) _).trans (hS.mono (by simp; omega))
  have l0 := hR.lt
  have q0 := (hR).cell 0; have q1 := (hR).cell 1; have q2 := (hR).cell 2; have q3 := (hR).cell 3; have q4 := (hR).cell 4; have q5 := (hR).cell 5; have q6 := (hR).cell 6; have q7 := (hR).cell 7; have qf := (hR).free
  simp only [List.getElem?_cons_zero, List.getElem?_cons_succ] at q0 q1 q2 q3 q4 q5 q6 q7
  clear hS
  go_wp2
  exact bodyPost_ret (v := .agg #[.int .u64 (w8 (x + y)).a, .int .u64 (w8 (x + y)).b, .int .u64 (w8 (x + y)).c, .int .u64 (w8 (x + y)).d, .int .u64 (w8 (x + y)).e, .int .u64 (w8 (x + y)).f, .int .u64 (w8 (x + y)).g, .int .u64 (w8 (x + y)).h]) (by simp [results, Try.results71, go_sem, *]) rfl ⟨rfl, ((((((((hW).setCell (by first | omega | (simp; done) | (simp; omega)) _).setCell (by first | omega | (simp; done) | (simp; omega)) _).setCell (by first | omega | (simp; done) | (simp; omega)) _).setCell (by first | omega | (simp; done) | (simp; omega)) _).setCell (by first | omega | (simp; done) | (simp; omega)) _).setCell (by first | omega | (simp; done) | (simp; omega)) _).setCell (by first | omega | (simp; done) | (simp; omega)) _).setCell (by first | omega | (simp; done) | (simp; omega)) _⟩
set_option maxHeartbeats 2000000 in
theorem times15C {x y : Int} (hx : mid x) (hy : mid y) (w : World) : RetB Try.prog 72 #[.agg #[.int .u64 (w8 x).a, .int .u64 (w8 x).b, .int .u64 (w8 x).c, .int .u64 (w8 x).d, .int .u64 (w8 x).e, .int .u64 (w8 x).f, .int .u64 (w8 x).g, .int .u64 (w8 x).h], .agg #[.int .u64 (w8 y).a, .int .u64 (w8 y).b, .int .u64 (w8 y).c, .int .u64 (w8 y).d, .int .u64 (w8 y).e, .int .u64 (w8 y).f, .int .u64 (w8 y).g, .int .u64 (w8 y).h]] w (.agg #[.int .u64 (w8 (x * y)).a, .int .u64 (w8 (x * y)).b, .int .u64 (w8 (x * y)).c, .int .u64 (w8 (x * y)).d, .int .u64 (w8 (x * y)).e, .int .u64 (w8 (x * y)).f, .int .u64 (w8 (x * y)).g, .int .u64 (w8 (x * y)).h]) := by
  have H := Lib.hid (fun w => timesW hx hy w)
  clear hx hy
  unfold RetB
  go_enter Try.func72, Try.ntmps72
  go_wp2_with fail
  refine (H.out _).mono ?_
  rintro e w1 ⟨rfl, hS⟩
  have hR : Box w1 (w.heap.size + 1 + 1) [.int .u64 0, .int .u64 0, .int .u64 0, .int .u64 0, .int .u64 0, .int .u64 0, .int .u64 0, .int .u64 0] 37 := (Box.new (by simp)).step hS
  have hW : Below w.heap.size w w1 := ((((Below.refl _ _).alloc (Nat.le_refl _) _).alloc (by simp) _).alloc (by simp; omega) _).trans (hS.mono (by simp; omega))
  have l0 := hR.lt
  have q0 := (hR).cell 0; have q1 := (hR).cell 1; have q2 := (hR).cell 2; have q3 := (hR).cell 3; have q4 := (hR).cell 4; have q5 := (hR).cell 5; have q6 := (hR).cell 6; have q7 := (hR).cell 7; have qf := (hR).free
  simp only [List.getElem?_cons_zero, List.getElem?_cons_succ] at q0 q1 q2 q3 q4 q5 q6 q7
  clear hS
  go_wp2
  exact bodyPost_ret (v := .agg #[.int .u64 (w8 (x * y)).a, .int .u64 (w8 (x * y)).b, .int .u64 (w8 (x * y)).c, .int .u64 (w8 (x * y)).d, .int .u64 (w8 (x * y)).e, .int .u64 (w8 (x * y)).f, .int .u64 (w8 (x * y)).g, .int .u64 (w8 (x * y)).h]) (by simp [results, Try.results72, go_sem, *]) rfl ⟨rfl, ((((((((hW).setCell (by first | omega | (simp; done) | (simp; omega)) _).setCell (by first | omega | (simp; done) | (simp; omega)) _).setCell (by first | omega | (simp; done) | (simp; omega)) _).setCell (by first | omega | (simp; done) | (simp; omega)) _).setCell (by first | omega | (simp; done) | (simp; omega)) _).setCell (by first | omega | (simp; done) | (simp; omega)) _).setCell (by first | omega | (simp; done) | (simp; omega)) _).setCell (by first | omega | (simp; done) | (simp; omega)) _⟩
theorem fit_mul {a b : Int} (ha : c30 a) (hb : c30 b) : fits (a * b) := by
  have h := c30_mul ha hb
  exact half_fit (by unfold WidB.half; omega)
set_option maxRecDepth 100000 in
set_option maxHeartbeats 2000000 in
theorem dotR {p q : Pt} (hp : sP p) (hq : sP q) (w : World) : RetB Try.prog 40 #[.agg #[.int .i64 p.x, .int .i64 p.y, .int .i64 p.z], .agg #[.int .i64 q.x, .int .i64 q.y, .int .i64 q.z]] w (.agg #[.int .u64 (w8 (GDot.dot p q)).a, .int .u64 (w8 (GDot.dot p q)).b, .int .u64 (w8 (GDot.dot p q)).c, .int .u64 (w8 (GDot.dot p q)).d, .int .u64 (w8 (GDot.dot p q)).e, .int .u64 (w8 (GDot.dot p q)).f, .int .u64 (w8 (GDot.dot p q)).g, .int .u64 (w8 (GDot.dot p q)).h]) := by
  have h1 := c30_mul hp.x hq.x; have h2 := c30_mul hp.y hq.y; have h3 := c30_mul hp.z hq.z
  have O1 := Lib.hid (fun w => mulW (c30_63 hp.x) (c30_63 hq.x) w)
  have O2 := Lib.hid (fun w => mulW (c30_63 hp.y) (c30_63 hq.y) w)
  have O3 := Lib.hid (fun w => mulW (c30_63 hp.z) (c30_63 hq.z) w)
  have O4 := Lib.hid (fun w => plusW (fit_mul hp.x hq.x) (fit_mul hp.y hq.y) (half_fit (by unfold WidB.half; omega)) w)
  have O5 := Lib.hid (fun w => plusW (x := p.x * q.x + p.y * q.y) (half_fit (by unfold WidB.half; omega)) (fit_mul hp.z hq.z) (half_fit (by unfold WidB.half; omega)) w)
  clear h1 h2 h3 hp hq
  unfold RetB
  go_enter Try.func40, Try.ntmps40
  go_wp2
  have hA : Box (((w.alloc (.cells #[.int .i64 p.x, .int .i64 p.y, .int .i64 p.z] 30)).alloc (.cells #[.int .i64 q.x, .int .i64 q.y, .int .i64 q.z] 30)).alloc (.cells [.int .u64 0, .int .u64 0, .int .u64 0, .int .u64 0, .int .u64 0, .int .u64 0, .int .u64 0, .int .u64 0].toArray 37)) w.heap.size [.int .i64 p.x, .int .i64 p.y, .int .i64 p.z] 30 := ((Box.new rfl).alloc _).alloc _
  have hB : Box (((w.alloc (.cells #[.int .i64 p.x, .int .i64 p.y, .int .i64 p.z] 30)).alloc (.cells #[.int .i64 q.x, .int .i64 q.y, .int .i64 q.z] 30)).alloc (.cells [.int .u64 0, .int .u64 0, .int .u64 0, .int .u64 0, .int .u64 0, .int .u64 0, .int .u64 0, .int .u64 0].toArray 37)) (w.heap.size + 1) [.int .i64 q.x, .int .i64 q.y, .int .i64 q.z] 30 := (Box.new (by simp)).alloc _
  have hR : Box (((w.alloc (.cells #[.int .i64 p.x, .int .i64 p.y, .int .i64 p.z] 30)).alloc (.cells #[.int .i64 q.x, .int .i64 q.y, .int .i64 q.z] 30)).alloc (.cells [.int .u64 0, .int .u64 0, .int .u64 0, .int .u64 0, .int .u64 0, .int .u64 0, .int .u64 0, .int .u64 0].toArray 37)) (w.heap.size + 1 + 1) [.int .u64 0, .int .u64 0, .int .u64 0, .int .u64 0, .int .u64 0, .int .u64 0, .int .u64 0, .int .u64 0] 37 := Box.new (by simp)
  have hW : Below w.heap.size w (((w.alloc (.cells #[.int .i64 p.x, .int .i64 p.y, .int .i64 p.z] 30)).alloc (.cells #[.int .i64 q.x, .int .i64 q.y, .int .i64 q.z] 30)).alloc (.cells [.int .u64 0, .int .u64 0, .int .u64 0, .int .u64 0, .int .u64 0, .int .u64 0, .int .u64 0, .int .u64 0].toArray 37)) := ((((Below.refl _ _).alloc (Nat.le_refl _) _).alloc (by simp) _).alloc (by simp; omega) _)
  revert hA hB hR hW
  generalize (((w.alloc (.cells #[.int .i64 p.x, .int .i64 p.y, .int .i64 p.z] 30)).alloc (.cells #[.int .i64 q.x, .int .i64 q.y, .int .i64 q.z] 30)).alloc (.cells [.int .u64 0, .int .u64 0, .int .u64 0, .int .u64 0, .int .u64 0, .int .u64 0, .int .u64 0, .int .u64 0].toArray 37)) = w2
  intro hA hB hR hW
  have m0 := hA.lt; have m1 := hB.lt; have mR := hR.lt
  have x0 := (hA).cell 0; have x1 := (hA).cell 1; have x2 := (hA).cell 2; have xf := (hA).free
  simp only [List.getElem?_cons_zero, List.getElem?_cons_succ] at x0 x1 x2
  have y0 := (hB).cell 0; have y1 := (hB).cell 1; have y2 := (hB).cell 2; have yf := (hB).free
  simp only [List.getElem?_cons_zero, List.getElem?_cons_succ] at y0 y1 y2
  refine wp_region_ph [(17, .free [])] (by kernel_rfl) (by kernel_rfl) ?_
  refine Ph.belowd ?_
  simp only [List.drop_succ_cons, List.drop_zero, List.take_succ_cons, List.take_zero, Nat.reduceSub, Nat.sub_zero]
  iterate 4 (refine SeqO.val (v := ?_) (by rfl) (by rfl) (fun w1 hS => ?_) ?_; rotate_left; (· obtain ⟨hc, hcf⟩ := bcell hS; go_simp; try with_reducible rfl); simp only [Act.put, List.setIfInBounds_toArray, List.set_cons_zero, List.set_cons_succ])
  refine SeqO.callv (by rfl) (by rfl) (by rfl) cf67 (by simp [Act.eval]) (fun w1 hS => O1.out w1) ?_
  simp only [Act.put, List.setIfInBounds_toArray, List.set_cons_zero, List.set_cons_succ]
  iterate 4 (refine SeqO.val (v := ?_) (by rfl) (by rfl) (fun w1 hS => ?_) ?_; rotate_left; (· obtain ⟨hc, hcf⟩ := bcell hS; go_simp; try with_reducible rfl); simp only [Act.put, List.setIfInBounds_toArray, List.set_cons_zero, List.set_cons_succ])
  refine SeqO.callv (by rfl) (by rfl) (by rfl) cf67 (by simp [Act.eval]) (fun w1 hS => O2.out w1) ?_
  simp only [Act.put, List.setIfInBounds_toArray, List.set_cons_zero, List.set_cons_succ]
  refine SeqO.callv (by rfl) (by rfl) (by rfl) cf66 (by simp [Act.eval]) (fun w1 hS => O4.out w1) ?_
  simp only [Act.put, List.setIfInBounds_toArray, List.set_cons_zero, List.set_cons_succ]
  iterate 4 (refine SeqO.val (v := ?_) (by rfl) (by rfl) (fun w1 hS => ?_) ?_; rotate_left; (· obtain ⟨hc, hcf⟩ := bcell hS; go_simp; try with_reducible rfl); simp only [Act.put, List.setIfInBounds_toArray, List.set_cons_zero, List.set_cons_succ])
  refine SeqO.callv (by rfl) (by rfl) (by rfl) cf67 (by simp [Act.eval]) (fun w1 hS => O3.out w1) ?_
  simp only [Act.put, List.setIfInBounds_toArray, List.set_cons_zero, List.set_cons_succ]
  refine SeqO.callv (by rfl) (by rfl) (by rfl) cf66 (by simp [Act.eval]) (fun w1 hS => O5.out w1) ?_
  simp only [Act.put, List.setIfInBounds_toArray, List.set_cons_zero, List.set_cons_succ]
  refine SeqO.nil0 fun w3 hS3 => ?_
  refine Ph.last ?_
  simp only [List.drop_succ_cons, List.drop_zero, List.take_succ_cons, List.take_zero, Nat.reduceSub, Nat.sub_zero]
  have hR := hR.step hS3
  have hW := hW.trans (hS3.mono hW.size)
  refine wpL_store (cs := [.int .u64 (w8 (GDot.dot p q)).a, .int .u64 (w8 (GDot.dot p q)).b, .int .u64 (w8 (GDot.dot p q)).c, .int .u64 (w8 (GDot.dot p q)).d, .int .u64 (w8 (GDot.dot p q)).e, .int .u64 (w8 (GDot.dot p q)).f, .int .u64 (w8 (GDot.dot p q)).g, .int .u64 (w8 (GDot.dot p q)).h]) (by rfl) (by rfl) (by rfl) hR (by kernel_rfl) (by rfl) (by simp [Value.oneCell']) (by kernel_rfl) ?_
  conv => arg 5; simp only [Act.put, List.setIfInBounds_toArray, List.set_cons_zero, List.set_cons_succ]
  have hR := hR.row [.int .u64 (w8 (GDot.dot p q)).a, .int .u64 (w8 (GDot.dot p q)).b, .int .u64 (w8 (GDot.dot p q)).c, .int .u64 (w8 (GDot.dot p q)).d, .int .u64 (w8 (GDot.dot p q)).e, .int .u64 (w8 (GDot.dot p q)).f, .int .u64 (w8 (GDot.dot p q)).g, .int .u64 (w8 (GDot.dot p q)).h]
  have hW := below_setRow hW (g := w.heap.size + 1 + 1) (by omega) [.int .u64 (w8 (GDot.dot p q)).a, .int .u64 (w8 (GDot.dot p q)).b, .int .u64 (w8 (GDot.dot p q)).c, .int .u64 (w8 (GDot.dot p q)).d, .int .u64 (w8 (GDot.dot p q)).e, .int .u64 (w8 (GDot.dot p q)).f, .int .u64 (w8 (GDot.dot p q)).g, .int .u64 (w8 (GDot.dot p q)).h].toArray
  refine wpList_nil ?_
  go_wp2
  exact bodyPost_ret (v := .agg #[.int .u64 (w8 (GDot.dot p q)).a, .int .u64 (w8 (GDot.dot p q)).b, .int .u64 (w8 (GDot.dot p q)).c, .int .u64 (w8 (GDot.dot p q)).d, .int .u64 (w8 (GDot.dot p q)).e, .int .u64 (w8 (GDot.dot p q)).f, .int .u64 (w8 (GDot.dot p q)).g, .int .u64 (w8 (GDot.dot p q)).h]) (results_cell_row Try.results40 _ _ _ _ _ _ _ (by rfl) hR Try.underlying37 (by rfl) (by kernel_rfl)) rfl ⟨rfl, hW⟩
set_option maxRecDepth 100000 in
set_option maxHeartbeats 4000000 in
theorem crossR {p q : Pt} (hp : sP p) (hq : sP q) (w : World) : RetB Try.prog 43 #[.agg #[.int .i64 p.x, .int .i64 p.y, .int .i64 p.z], .agg #[.int .i64 q.x, .int .i64 q.y, .int .i64 q.z]] w (.agg #[.int .u64 (w8 (cx p q)).a, .int .u64 (w8 (cx p q)).b, .int .u64 (w8 (cx p q)).c, .int .u64 (w8 (cx p q)).d, .int .u64 (w8 (cx p q)).e, .int .u64 (w8 (cx p q)).f, .int .u64 (w8 (cx p q)).g, .int .u64 (w8 (cx p q)).h, .int .u64 (w8 (cy p q)).a, .int .u64 (w8 (cy p q)).b, .int .u64 (w8 (cy p q)).c, .int .u64 (w8 (cy p q)).d, .int .u64 (w8 (cy p q)).e, .int .u64 (w8 (cy p q)).f, .int .u64 (w8 (cy p q)).g, .int .u64 (w8 (cy p q)).h, .int .u64 (w8 (cz p q)).a, .int .u64 (w8 (cz p q)).b, .int .u64 (w8 (cz p q)).c, .int .u64 (w8 (cz p q)).d, .int .u64 (w8 (cz p q)).e, .int .u64 (w8 (cz p q)).f, .int .u64 (w8 (cz p q)).g, .int .u64 (w8 (cz p q)).h]) := by
  have h0 := c30_mul hp.y hq.z; have k0 := c30_mul hp.z hq.y
  have M0 := Lib.hid (fun w => mulW (c30_63 hp.y) (c30_63 hq.z) w); have N0 := Lib.hid (fun w => mulW (c30_63 hp.z) (c30_63 hq.y) w)
  have L0 := Lib.hid (fun w => lessW (fit_mul hp.y hq.z) (fit_mul hp.z hq.y) (half_fit (by unfold WidB.half; omega)) w)
  have h1 := c30_mul hp.z hq.x; have k1 := c30_mul hp.x hq.z
  have M1 := Lib.hid (fun w => mulW (c30_63 hp.z) (c30_63 hq.x) w); have N1 := Lib.hid (fun w => mulW (c30_63 hp.x) (c30_63 hq.z) w)
  have L1 := Lib.hid (fun w => lessW (fit_mul hp.z hq.x) (fit_mul hp.x hq.z) (half_fit (by unfold WidB.half; omega)) w)
  have h2 := c30_mul hp.x hq.y; have k2 := c30_mul hp.y hq.x
  have M2 := Lib.hid (fun w => mulW (c30_63 hp.x) (c30_63 hq.y) w); have N2 := Lib.hid (fun w => mulW (c30_63 hp.y) (c30_63 hq.x) w)
  have L2 := Lib.hid (fun w => lessW (fit_mul hp.x hq.y) (fit_mul hp.y hq.x) (half_fit (by unfold WidB.half; omega)) w)
  clear h0 h1 h2 k0 k1 k2 hp hq
  unfold RetB
  go_enter Try.func43, Try.ntmps43
  go_wp2
  have hA : Box (((w.alloc (.cells #[.int .i64 p.x, .int .i64 p.y, .int .i64 p.z] 30)).alloc (.cells #[.int .i64 q.x, .int .i64 q.y, .int .i64 q.z] 30)).alloc (.cells [.int .u64 0, .int .u64 0, .int .u64 0, .int .u64 0, .int .u64 0, .int .u64 0, .int .u64 0, .int .u64 0, .int .u64 0, .int .u64 0, .int .u64 0, .int .u64 0, .int .u64 0, .int .u64 0, .int .u64 0, .int .u64 0, .int .u64 0, .int .u64 0, .int .u64 0, .int .u64 0, .int .u64 0, .int .u64 0, .int .u64 0, .int .u64 0].toArray 64)) w.heap.size [.int .i64 p.x, .int .i64 p.y, .int .i64 p.z] 30 := ((Box.new rfl).alloc _).alloc _
  have hB : Box (((w.alloc (.cells #[.int .i64 p.x, .int .i64 p.y, .int .i64 p.z] 30)).alloc (.cells #[.int .i64 q.x, .int .i64 q.y, .int .i64 q.z] 30)).alloc (.cells [.int .u64 0, .int .u64 0, .int .u64 0, .int .u64 0, .int .u64 0, .int .u64 0, .int .u64 0, .int .u64 0, .int .u64 0, .int .u64 0, .int .u64 0, .int .u64 0, .int .u64 0, .int .u64 0, .int .u64 0, .int .u64 0, .int .u64 0, .int .u64 0, .int .u64 0, .int .u64 0, .int .u64 0, .int .u64 0, .int .u64 0, .int .u64 0].toArray 64)) (w.heap.size + 1) [.int .i64 q.x, .int .i64 q.y, .int .i64 q.z] 30 := (Box.new (by simp)).alloc _
  have hR : Box (((w.alloc (.cells #[.int .i64 p.x, .int .i64 p.y, .int .i64 p.z] 30)).alloc (.cells #[.int .i64 q.x, .int .i64 q.y, .int .i64 q.z] 30)).alloc (.cells [.int .u64 0, .int .u64 0, .int .u64 0, .int .u64 0, .int .u64 0, .int .u64 0, .int .u64 0, .int .u64 0, .int .u64 0, .int .u64 0, .int .u64 0, .int .u64 0, .int .u64 0, .int .u64 0, .int .u64 0, .int .u64 0, .int .u64 0, .int .u64 0, .int .u64 0, .int .u64 0, .int .u64 0, .int .u64 0, .int .u64 0, .int .u64 0].toArray 64)) (w.heap.size + 1 + 1) [.int .u64 0, .int .u64 0, .int .u64 0, .int .u64 0, .int .u64 0, .int .u64 0, .int .u64 0, .int .u64 0, .int .u64 0, .int .u64 0, .int .u64 0, .int .u64 0, .int .u64 0, .int .u64 0, .int .u64 0, .int .u64 0, .int .u64 0, .int .u64 0, .int .u64 0, .int .u64 0, .int .u64 0, .int .u64 0, .int .u64 0, .int .u64 0] 64 := Box.new (by simp)
  have hW : Below w.heap.size w (((w.alloc (.cells #[.int .i64 p.x, .int .i64 p.y, .int .i64 p.z] 30)).alloc (.cells #[.int .i64 q.x, .int .i64 q.y, .int .i64 q.z] 30)).alloc (.cells [.int .u64 0, .int .u64 0, .int .u64 0, .int .u64 0, .int .u64 0, .int .u64 0, .int .u64 0, .int .u64 0, .int .u64 0, .int .u64 0, .int .u64 0, .int .u64 0, .int .u64 0, .int .u64 0, .int .u64 0, .int .u64 0, .int .u64 0, .int .u64 0, .int .u64 0, .int .u64 0, .int .u64 0, .int .u64 0, .int .u64 0, .int .u64 0].toArray 64)) := ((((Below.refl _ _).alloc (Nat.le_refl _) _).alloc (by simp) _).alloc (by simp; omega) _)
  revert hA hB hR hW
  generalize (((w.alloc (.cells #[.int .i64 p.x, .int .i64 p.y, .int .i64 p.z] 30)).alloc (.cells #[.int .i64 q.x, .int .i64 q.y, .int .i64 q.z] 30)).alloc (.cells [.int .u64 0, .int .u64 0, .int .u64 0, .int .u64 0, .int .u64 0, .int .u64 0, .int .u64 0, .int .u64 0, .int .u64 0, .int .u64 0, .int .u64 0, .int .u64 0, .int .u64 0, .int .u64 0, .int .u64 0, .int .u64 0, .int .u64 0, .int .u64 0, .int .u64 0, .int .u64 0, .int .u64 0, .int .u64 0, .int .u64 0, .int .u64 0].toArray 64)) = w2
  intro hA hB hR hW
  have m0 := hA.lt; have m1 := hB.lt; have mR := hR.lt
  have x0 := (hA).cell 0; have x1 := (hA).cell 1; have x2 := (hA).cell 2; have xf := (hA).free
  simp only [List.getElem?_cons_zero, List.getElem?_cons_succ] at x0 x1 x2
  have y0 := (hB).cell 0; have y1 := (hB).cell 1; have y2 := (hB).cell 2; have yf := (hB).free
  simp only [List.getElem?_cons_zero, List.getElem?_cons_succ] at y0 y1 y2
  refine wp_region_ph [(34, .free [])] (by kernel_rfl) (by kernel_rfl) ?_
  refine Ph.belowd ?_
  simp only [List.drop_succ_cons, List.drop_zero, List.take_succ_cons, List.take_zero, Nat.reduceSub, Nat.sub_zero]
  iterate 4 (refine SeqO.val (v := ?_) (by rfl) (by rfl) (fun w1 hS => ?_) ?_; rotate_left; (· obtain ⟨hc, hcf⟩ := bcell hS; go_simp; try with_reducible rfl); simp only [Act.put, List.setIfInBounds_toArray, List.set_cons_zero, List.set_cons_succ])
  refine SeqO.callv (by rfl) (by rfl) (by rfl) cf67 (by simp [Act.eval]) (fun w1 hS => M0.out w1) ?_
  simp only [Act.put, List.setIfInBounds_toArray, List.set_cons_zero, List.set_cons_succ]
  iterate 4 (refine SeqO.val (v := ?_) (by rfl) (by rfl) (fun w1 hS => ?_) ?_; rotate_left; (· obtain ⟨hc, hcf⟩ := bcell hS; go_simp; try with_reducible rfl); simp only [Act.put, List.setIfInBounds_toArray, List.set_cons_zero, List.set_cons_succ])
  refine SeqO.callv (by rfl) (by rfl) (by rfl) cf67 (by simp [Act.eval]) (fun w1 hS => N0.out w1) ?_
  simp only [Act.put, List.setIfInBounds_toArray, List.set_cons_zero, List.set_cons_succ]
  refine SeqO.callv (by rfl) (by rfl) (by rfl) cf73 (by simp [Act.eval]) (fun w1 hS => L0.out w1) ?_
  simp only [Act.put, List.setIfInBounds_toArray, List.set_cons_zero, List.set_cons_succ]
  iterate 4 (refine SeqO.val (v := ?_) (by rfl) (by rfl) (fun w1 hS => ?_) ?_; rotate_left; (· obtain ⟨hc, hcf⟩ := bcell hS; go_simp; try with_reducible rfl); simp only [Act.put, List.setIfInBounds_toArray, List.set_cons_zero, List.set_cons_succ])
  refine SeqO.callv (by rfl) (by rfl) (by rfl) cf67 (by simp [Act.eval]) (fun w1 hS => M1.out w1) ?_
  simp only [Act.put, List.setIfInBounds_toArray, List.set_cons_zero, List.set_cons_succ]
  iterate 4 (refine SeqO.val (v := ?_) (by rfl) (by rfl) (fun w1 hS => ?_) ?_; rotate_left; (· obtain ⟨hc, hcf⟩ := bcell hS; go_simp; try with_reducible rfl); simp only [Act.put, List.setIfInBounds_toArray, List.set_cons_zero, List.set_cons_succ])
  refine SeqO.callv (by rfl) (by rfl) (by rfl) cf67 (by simp [Act.eval]) (fun w1 hS => N1.out w1) ?_
  simp only [Act.put, List.setIfInBounds_toArray, List.set_cons_zero, List.set_cons_succ]
  refine SeqO.callv (by rfl) (by rfl) (by rfl) cf73 (by simp [Act.eval]) (fun w1 hS => L1.out w1) ?_
  simp only [Act.put, List.setIfInBounds_toArray, List.set_cons_zero, List.set_cons_succ]
  iterate 4 (refine SeqO.val (v := ?_) (by rfl) (by rfl) (fun w1 hS => ?_) ?_; rotate_left; (· obtain ⟨hc, hcf⟩ := bcell hS; go_simp; try with_reducible rfl); simp only [Act.put, List.setIfInBounds_toArray, List.set_cons_zero, List.set_cons_succ])
  refine SeqO.callv (by rfl) (by rfl) (by rfl) cf67 (by simp [Act.eval]) (fun w1 hS => M2.out w1) ?_
  simp only [Act.put, List.setIfInBounds_toArray, List.set_cons_zero, List.set_cons_succ]
  iterate 4 (refine SeqO.val (v := ?_) (by rfl) (by rfl) (fun w1 hS => ?_) ?_; rotate_left; (· obtain ⟨hc, hcf⟩ := bcell hS; go_simp; try with_reducible rfl); simp only [Act.put, List.setIfInBounds_toArray, List.set_cons_zero, List.set_cons_succ])
  refine SeqO.callv (by rfl) (by rfl) (by rfl) cf67 (by simp [Act.eval]) (fun w1 hS => N2.out w1) ?_
  simp only [Act.put, List.setIfInBounds_toArray, List.set_cons_zero, List.set_cons_succ]
  refine SeqO.callv (by rfl) (by rfl) (by rfl) cf73 (by simp [Act.eval]) (fun w1 hS => L2.out w1) ?_
  simp only [Act.put, List.setIfInBounds_toArray, List.set_cons_zero, List.set_cons_succ]
  iterate 1 (refine SeqO.val (v := ?_) (by rfl) (by rfl) (fun w1 hS => ?_) ?_; rotate_left; (· obtain ⟨hc, hcf⟩ := bcell hS; go_simp; try with_reducible rfl); simp only [Act.put, List.setIfInBounds_toArray, List.set_cons_zero, List.set_cons_succ])
  refine SeqO.nil0 fun w3 hS3 => ?_
  refine Ph.last ?_
  simp only [List.drop_succ_cons, List.drop_zero, List.take_succ_cons, List.take_zero, Nat.reduceSub, Nat.sub_zero]
  have hR := hR.step hS3
  have hW := hW.trans (hS3.mono hW.size)
  refine wpL_store (cs := [.int .u64 (w8 (cx p q)).a, .int .u64 (w8 (cx p q)).b, .int .u64 (w8 (cx p q)).c, .int .u64 (w8 (cx p q)).d, .int .u64 (w8 (cx p q)).e, .int .u64 (w8 (cx p q)).f, .int .u64 (w8 (cx p q)).g, .int .u64 (w8 (cx p q)).h, .int .u64 (w8 (cy p q)).a, .int .u64 (w8 (cy p q)).b, .int .u64 (w8 (cy p q)).c, .int .u64 (w8 (cy p q)).d, .int .u64 (w8 (cy p q)).e, .int .u64 (w8 (cy p q)).f, .int .u64 (w8 (cy p q)).g, .int .u64 (w8 (cy p q)).h, .int .u64 (w8 (cz p q)).a, .int .u64 (w8 (cz p q)).b, .int .u64 (w8 (cz p q)).c, .int .u64 (w8 (cz p q)).d, .int .u64 (w8 (cz p q)).e, .int .u64 (w8 (cz p q)).f, .int .u64 (w8 (cz p q)).g, .int .u64 (w8 (cz p q)).h]) (by rfl) (by rfl) (by rfl) hR (by kernel_rfl) (by rfl) (by simp [Value.oneCell']) (by kernel_rfl) ?_
  conv => arg 5; simp only [Act.put, List.setIfInBounds_toArray, List.set_cons_zero, List.set_cons_succ]
  have hR := hR.row [.int .u64 (w8 (cx p q)).a, .int .u64 (w8 (cx p q)).b, .int .u64 (w8 (cx p q)).c, .int .u64 (w8 (cx p q)).d, .int .u64 (w8 (cx p q)).e, .int .u64 (w8 (cx p q)).f, .int .u64 (w8 (cx p q)).g, .int .u64 (w8 (cx p q)).h, .int .u64 (w8 (cy p q)).a, .int .u64 (w8 (cy p q)).b, .int .u64 (w8 (cy p q)).c, .int .u64 (w8 (cy p q)).d, .int .u64 (w8 (cy p q)).e, .int .u64 (w8 (cy p q)).f, .int .u64 (w8 (cy p q)).g, .int .u64 (w8 (cy p q)).h, .int .u64 (w8 (cz p q)).a, .int .u64 (w8 (cz p q)).b, .int .u64 (w8 (cz p q)).c, .int .u64 (w8 (cz p q)).d, .int .u64 (w8 (cz p q)).e, .int .u64 (w8 (cz p q)).f, .int .u64 (w8 (cz p q)).g, .int .u64 (w8 (cz p q)).h]
  have hW := below_setRow hW (g := w.heap.size + 1 + 1) (by omega) [.int .u64 (w8 (cx p q)).a, .int .u64 (w8 (cx p q)).b, .int .u64 (w8 (cx p q)).c, .int .u64 (w8 (cx p q)).d, .int .u64 (w8 (cx p q)).e, .int .u64 (w8 (cx p q)).f, .int .u64 (w8 (cx p q)).g, .int .u64 (w8 (cx p q)).h, .int .u64 (w8 (cy p q)).a, .int .u64 (w8 (cy p q)).b, .int .u64 (w8 (cy p q)).c, .int .u64 (w8 (cy p q)).d, .int .u64 (w8 (cy p q)).e, .int .u64 (w8 (cy p q)).f, .int .u64 (w8 (cy p q)).g, .int .u64 (w8 (cy p q)).h, .int .u64 (w8 (cz p q)).a, .int .u64 (w8 (cz p q)).b, .int .u64 (w8 (cz p q)).c, .int .u64 (w8 (cz p q)).d, .int .u64 (w8 (cz p q)).e, .int .u64 (w8 (cz p q)).f, .int .u64 (w8 (cz p q)).g, .int .u64 (w8 (cz p q)).h].toArray
  refine wpList_nil ?_
  go_wp2
  exact bodyPost_ret (v := (.agg #[.int .u64 (w8 (cx p q)).a, .int .u64 (w8 (cx p q)).b, .int .u64 (w8 (cx p q)).c, .int .u64 (w8 (cx p q)).d, .int .u64 (w8 (cx p q)).e, .int .u64 (w8 (cx p q)).f, .int .u64 (w8 (cx p q)).g, .int .u64 (w8 (cx p q)).h, .int .u64 (w8 (cy p q)).a, .int .u64 (w8 (cy p q)).b, .int .u64 (w8 (cy p q)).c, .int .u64 (w8 (cy p q)).d, .int .u64 (w8 (cy p q)).e, .int .u64 (w8 (cy p q)).f, .int .u64 (w8 (cy p q)).g, .int .u64 (w8 (cy p q)).h, .int .u64 (w8 (cz p q)).a, .int .u64 (w8 (cz p q)).b, .int .u64 (w8 (cz p q)).c, .int .u64 (w8 (cz p q)).d, .int .u64 (w8 (cz p q)).e, .int .u64 (w8 (cz p q)).f, .int .u64 (w8 (cz p q)).g, .int .u64 (w8 (cz p q)).h])) (results_cell_row Try.results43 _ _ _ _ _ _ _ (by rfl) hR Try.underlying64 (by rfl) (by kernel_rfl)) rfl ⟨rfl, hW⟩
theorem c61_mid {n : Int} (h : c61 n) : mid n := i63_mid (by unfold c61 at h; unfold i63; omega)
set_option maxRecDepth 100000 in
set_option maxHeartbeats 4000000 in
theorem sqR {x y z : Int} (hx : c61 x) (hy : c61 y) (hz : c61 z) (w : World) : RetB Try.prog 42 #[.agg #[.int .u64 (w8 x).a, .int .u64 (w8 x).b, .int .u64 (w8 x).c, .int .u64 (w8 x).d, .int .u64 (w8 x).e, .int .u64 (w8 x).f, .int .u64 (w8 x).g, .int .u64 (w8 x).h, .int .u64 (w8 y).a, .int .u64 (w8 y).b, .int .u64 (w8 y).c, .int .u64 (w8 y).d, .int .u64 (w8 y).e, .int .u64 (w8 y).f, .int .u64 (w8 y).g, .int .u64 (w8 y).h, .int .u64 (w8 z).a, .int .u64 (w8 z).b, .int .u64 (w8 z).c, .int .u64 (w8 z).d, .int .u64 (w8 z).e, .int .u64 (w8 z).f, .int .u64 (w8 z).g, .int .u64 (w8 z).h]] w (.agg #[.int .u64 (w8 (x * x + y * y + z * z)).a, .int .u64 (w8 (x * x + y * y + z * z)).b, .int .u64 (w8 (x * x + y * y + z * z)).c, .int .u64 (w8 (x * x + y * y + z * z)).d, .int .u64 (w8 (x * x + y * y + z * z)).e, .int .u64 (w8 (x * x + y * y + z * z)).f, .int .u64 (w8 (x * x + y * y + z * z)).g, .int .u64 (w8 (x * x + y * y + z * z)).h]) := by
  have q1 := sq_le hx; have q2 := sq_le hy; have q3 := sq_le hz
  have M1 := Lib.hid (fun w => times15C (c61_mid hx) (c61_mid hx) w)
  have M2 := Lib.hid (fun w => times15C (c61_mid hy) (c61_mid hy) w)
  have M3 := Lib.hid (fun w => times15C (c61_mid hz) (c61_mid hz) w)
  have P1 := Lib.hid (fun w => plus15C (fit124 (by omega : 0 ≤ x * x) (by omega)) (fit124 (by omega : 0 ≤ y * y) (by omega)) (fit124 (by omega) (by omega)) w)
  have P2 := Lib.hid (fun w => plus15C (fit124 (by omega : 0 ≤ x * x + y * y) (by omega)) (fit124 (by omega : 0 ≤ z * z) (by omega)) (fit124 (by omega) (by omega)) w)
  clear q1 q2 q3 hx hy hz
  unfold RetB
  go_enter Try.func42, Try.ntmps42
  go_wp2
  have hA : Box ((w.alloc (.cells [.int .u64 (w8 x).a, .int .u64 (w8 x).b, .int .u64 (w8 x).c, .int .u64 (w8 x).d, .int .u64 (w8 x).e, .int .u64 (w8 x).f, .int .u64 (w8 x).g, .int .u64 (w8 x).h, .int .u64 (w8 y).a, .int .u64 (w8 y).b, .int .u64 (w8 y).c, .int .u64 (w8 y).d, .int .u64 (w8 y).e, .int .u64 (w8 y).f, .int .u64 (w8 y).g, .int .u64 (w8 y).h, .int .u64 (w8 z).a, .int .u64 (w8 z).b, .int .u64 (w8 z).c, .int .u64 (w8 z).d, .int .u64 (w8 z).e, .int .u64 (w8 z).f, .int .u64 (w8 z).g, .int .u64 (w8 z).h].toArray 64)).alloc (.cells [.int .u64 0, .int .u64 0, .int .u64 0, .int .u64 0, .int .u64 0, .int .u64 0, .int .u64 0, .int .u64 0].toArray 37)) w.heap.size [.int .u64 (w8 x).a, .int .u64 (w8 x).b, .int .u64 (w8 x).c, .int .u64 (w8 x).d, .int .u64 (w8 x).e, .int .u64 (w8 x).f, .int .u64 (w8 x).g, .int .u64 (w8 x).h, .int .u64 (w8 y).a, .int .u64 (w8 y).b, .int .u64 (w8 y).c, .int .u64 (w8 y).d, .int .u64 (w8 y).e, .int .u64 (w8 y).f, .int .u64 (w8 y).g, .int .u64 (w8 y).h, .int .u64 (w8 z).a, .int .u64 (w8 z).b, .int .u64 (w8 z).c, .int .u64 (w8 z).d, .int .u64 (w8 z).e, .int .u64 (w8 z).f, .int .u64 (w8 z).g, .int .u64 (w8 z).h] 64 := (Box.new rfl).alloc _
  have hR : Box ((w.alloc (.cells [.int .u64 (w8 x).a, .int .u64 (w8 x).b, .int .u64 (w8 x).c, .int .u64 (w8 x).d, .int .u64 (w8 x).e, .int .u64 (w8 x).f, .int .u64 (w8 x).g, .int .u64 (w8 x).h, .int .u64 (w8 y).a, .int .u64 (w8 y).b, .int .u64 (w8 y).c, .int .u64 (w8 y).d, .int .u64 (w8 y).e, .int .u64 (w8 y).f, .int .u64 (w8 y).g, .int .u64 (w8 y).h, .int .u64 (w8 z).a, .int .u64 (w8 z).b, .int .u64 (w8 z).c, .int .u64 (w8 z).d, .int .u64 (w8 z).e, .int .u64 (w8 z).f, .int .u64 (w8 z).g, .int .u64 (w8 z).h].toArray 64)).alloc (.cells [.int .u64 0, .int .u64 0, .int .u64 0, .int .u64 0, .int .u64 0, .int .u64 0, .int .u64 0, .int .u64 0].toArray 37)) (w.heap.size + 1) [.int .u64 0, .int .u64 0, .int .u64 0, .int .u64 0, .int .u64 0, .int .u64 0, .int .u64 0, .int .u64 0] 37 := Box.new (by simp)
  have hW : Below w.heap.size w ((w.alloc (.cells [.int .u64 (w8 x).a, .int .u64 (w8 x).b, .int .u64 (w8 x).c, .int .u64 (w8 x).d, .int .u64 (w8 x).e, .int .u64 (w8 x).f, .int .u64 (w8 x).g, .int .u64 (w8 x).h, .int .u64 (w8 y).a, .int .u64 (w8 y).b, .int .u64 (w8 y).c, .int .u64 (w8 y).d, .int .u64 (w8 y).e, .int .u64 (w8 y).f, .int .u64 (w8 y).g, .int .u64 (w8 y).h, .int .u64 (w8 z).a, .int .u64 (w8 z).b, .int .u64 (w8 z).c, .int .u64 (w8 z).d, .int .u64 (w8 z).e, .int .u64 (w8 z).f, .int .u64 (w8 z).g, .int .u64 (w8 z).h].toArray 64)).alloc (.cells [.int .u64 0, .int .u64 0, .int .u64 0, .int .u64 0, .int .u64 0, .int .u64 0, .int .u64 0, .int .u64 0].toArray 37)) := ((Below.refl _ _).alloc (Nat.le_refl _) _).alloc (by simp) _
  revert hA hR hW
  generalize ((w.alloc (.cells [.int .u64 (w8 x).a, .int .u64 (w8 x).b, .int .u64 (w8 x).c, .int .u64 (w8 x).d, .int .u64 (w8 x).e, .int .u64 (w8 x).f, .int .u64 (w8 x).g, .int .u64 (w8 x).h, .int .u64 (w8 y).a, .int .u64 (w8 y).b, .int .u64 (w8 y).c, .int .u64 (w8 y).d, .int .u64 (w8 y).e, .int .u64 (w8 y).f, .int .u64 (w8 y).g, .int .u64 (w8 y).h, .int .u64 (w8 z).a, .int .u64 (w8 z).b, .int .u64 (w8 z).c, .int .u64 (w8 z).d, .int .u64 (w8 z).e, .int .u64 (w8 z).f, .int .u64 (w8 z).g, .int .u64 (w8 z).h].toArray 64)).alloc (.cells [.int .u64 0, .int .u64 0, .int .u64 0, .int .u64 0, .int .u64 0, .int .u64 0, .int .u64 0, .int .u64 0].toArray 37)) = w2
  intro hA hR hW
  have m0 := hA.lt; have mR := hR.lt
  have A1 := Lib.hid (hA.part 0 8); have A2 := Lib.hid (hA.part 8 8); have A3 := Lib.hid (hA.part 16 8)
  simp only [List.drop_zero, List.drop_succ_cons, List.take_succ_cons, List.take_zero] at A1 A2 A3
  refine wp_region_ph [(17, .free [])] (by kernel_rfl) (by kernel_rfl) ?_
  refine Ph.belowd ?_
  simp only [List.drop_succ_cons, List.drop_zero, List.take_succ_cons, List.take_zero, Nat.reduceSub, Nat.sub_zero]
  iterate 1 (refine SeqO.val (v := ?_) (by rfl) (by rfl) (fun w1 hS => ?_) ?_; rotate_left; (· obtain ⟨hc, hcf⟩ := bcell hS; go_simp; try with_reducible rfl); simp only [Act.put, List.setIfInBounds_toArray, List.set_cons_zero, List.set_cons_succ])
  refine SeqO.at (l := [.int .u64 (w8 x).a, .int .u64 (w8 x).b, .int .u64 (w8 x).c, .int .u64 (w8 x).d, .int .u64 (w8 x).e, .int .u64 (w8 x).f, .int .u64 (w8 x).g, .int .u64 (w8 x).h]) (by rfl) (by rfl) m0 A1.out Try.underlying37 (by rfl) (by kernel_rfl) (by rfl) (by rfl) ?_
  simp only [Act.put, List.setIfInBounds_toArray, List.set_cons_zero, List.set_cons_succ]
  iterate 1 (refine SeqO.val (v := ?_) (by rfl) (by rfl) (fun w1 hS => ?_) ?_; rotate_left; (· obtain ⟨hc, hcf⟩ := bcell hS; go_simp; try with_reducible rfl); simp only [Act.put, List.setIfInBounds_toArray, List.set_cons_zero, List.set_cons_succ])
  refine SeqO.at (l := [.int .u64 (w8 x).a, .int .u64 (w8 x).b, .int .u64 (w8 x).c, .int .u64 (w8 x).d, .int .u64 (w8 x).e, .int .u64 (w8 x).f, .int .u64 (w8 x).g, .int .u64 (w8 x).h]) (by rfl) (by rfl) m0 A1.out Try.underlying37 (by rfl) (by kernel_rfl) (by rfl) (by rfl) ?_
  simp only [Act.put, List.setIfInBounds_toArray, List.set_cons_zero, List.set_cons_succ]
  refine SeqO.callv (by rfl) (by rfl) (by rfl) cf72 (by simp [Act.eval]) (fun w1 hS => M1.out w1) ?_
  simp only [Act.put, List.setIfInBounds_toArray, List.set_cons_zero, List.set_cons_succ]
  iterate 1 (refine SeqO.val (v := ?_) (by rfl) (by rfl) (fun w1 hS => ?_) ?_; rotate_left; (· obtain ⟨hc, hcf⟩ := bcell hS; go_simp; try with_reducible rfl); simp only [Act.put, List.setIfInBounds_toArray, List.set_cons_zero, List.set_cons_succ])
  refine SeqO.at (l := [.int .u64 (w8 y).a, .int .u64 (w8 y).b, .int .u64 (w8 y).c, .int .u64 (w8 y).d, .int .u64 (w8 y).e, .int .u64 (w8 y).f, .int .u64 (w8 y).g, .int .u64 (w8 y).h]) (by rfl) (by rfl) m0 A2.out Try.underlying37 (by rfl) (by kernel_rfl) (by rfl) (by rfl) ?_
  simp only [Act.put, List.setIfInBounds_toArray, List.set_cons_zero, List.set_cons_succ]
  iterate 1 (refine SeqO.val (v := ?_) (by rfl) (by rfl) (fun w1 hS => ?_) ?_; rotate_left; (· obtain ⟨hc, hcf⟩ := bcell hS; go_simp; try with_reducible rfl); simp only [Act.put, List.setIfInBounds_toArray, List.set_cons_zero, List.set_cons_succ])
  refine SeqO.at (l := [.int .u64 (w8 y).a, .int .u64 (w8 y).b, .int .u64 (w8 y).c, .int .u64 (w8 y).d, .int .u64 (w8 y).e, .int .u64 (w8 y).f, .int .u64 (w8 y).g, .int .u64 (w8 y).h]) (by rfl) (by rfl) m0 A2.out Try.underlying37 (by rfl) (by kernel_rfl) (by rfl) (by rfl) ?_
  simp only [Act.put, List.setIfInBounds_toArray, List.set_cons_zero, List.set_cons_succ]
  refine SeqO.callv (by rfl) (by rfl) (by rfl) cf72 (by simp [Act.eval]) (fun w1 hS => M2.out w1) ?_
  simp only [Act.put, List.setIfInBounds_toArray, List.set_cons_zero, List.set_cons_succ]
  refine SeqO.callv (by rfl) (by rfl) (by rfl) cf71 (by simp [Act.eval]) (fun w1 hS => P1.out w1) ?_
  simp only [Act.put, List.setIfInBounds_toArray, List.set_cons_zero, List.set_cons_succ]
  iterate 1 (refine SeqO.val (v := ?_) (by rfl) (by rfl) (fun w1 hS => ?_) ?_; rotate_left; (· obtain ⟨hc, hcf⟩ := bcell hS; go_simp; try with_reducible rfl); simp only [Act.put, List.setIfInBounds_toArray, List.set_cons_zero, List.set_cons_succ])
  refine SeqO.at (l := [.int .u64 (w8 z).a, .int .u64 (w8 z).b, .int .u64 (w8 z).c, .int .u64 (w8 z).d, .int .u64 (w8 z).e, .int .u64 (w8 z).f, .int .u64 (w8 z).g, .int .u64 (w8 z).h]) (by rfl) (by rfl) m0 A3.out Try.underlying37 (by rfl) (by kernel_rfl) (by rfl) (by rfl) ?_
  simp only [Act.put, List.setIfInBounds_toArray, List.set_cons_zero, List.set_cons_succ]
  iterate 1 (refine SeqO.val (v := ?_) (by rfl) (by rfl) (fun w1 hS => ?_) ?_; rotate_left; (· obtain ⟨hc, hcf⟩ := bcell hS; go_simp; try with_reducible rfl); simp only [Act.put, List.setIfInBounds_toArray, List.set_cons_zero, List.set_cons_succ])
  refine SeqO.at (l := [.int .u64 (w8 z).a, .int .u64 (w8 z).b, .int .u64 (w8 z).c, .int .u64 (w8 z).d, .int .u64 (w8 z).e, .int .u64 (w8 z).f, .int .u64 (w8 z).g, .int .u64 (w8 z).h]) (by rfl) (by rfl) m0 A3.out Try.underlying37 (by rfl) (by kernel_rfl) (by rfl) (by rfl) ?_
  simp only [Act.put, List.setIfInBounds_toArray, List.set_cons_zero, List.set_cons_succ]
  refine SeqO.callv (by rfl) (by rfl) (by rfl) cf72 (by simp [Act.eval]) (fun w1 hS => M3.out w1) ?_
  simp only [Act.put, List.setIfInBounds_toArray, List.set_cons_zero, List.set_cons_succ]
  refine SeqO.callv (by rfl) (by rfl) (by rfl) cf71 (by simp [Act.eval]) (fun w1 hS => P2.out w1) ?_
  simp only [Act.put, List.setIfInBounds_toArray, List.set_cons_zero, List.set_cons_succ]
  refine SeqO.nil0 fun w3 hS3 => ?_
  refine Ph.last ?_
  simp only [List.drop_succ_cons, List.drop_zero, List.take_succ_cons, List.take_zero, Nat.reduceSub, Nat.sub_zero]
  have hR := hR.step hS3
  have hW := hW.trans (hS3.mono hW.size)
  refine wpL_store (cs := [.int .u64 (w8 (x * x + y * y + z * z)).a, .int .u64 (w8 (x * x + y * y + z * z)).b, .int .u64 (w8 (x * x + y * y + z * z)).c, .int .u64 (w8 (x * x + y * y + z * z)).d, .int .u64 (w8 (x * x + y * y + z * z)).e, .int .u64 (w8 (x * x + y * y + z * z)).f, .int .u64 (w8 (x * x + y * y + z * z)).g, .int .u64 (w8 (x * x + y * y + z * z)).h]) (by rfl) (by rfl) (by rfl) hR (by kernel_rfl) (by rfl) (by simp [Value.oneCell']) (by kernel_rfl) ?_
  conv => arg 5; simp only [Act.put, List.setIfInBounds_toArray, List.set_cons_zero, List.set_cons_succ]
  have hR := hR.row [.int .u64 (w8 (x * x + y * y + z * z)).a, .int .u64 (w8 (x * x + y * y + z * z)).b, .int .u64 (w8 (x * x + y * y + z * z)).c, .int .u64 (w8 (x * x + y * y + z * z)).d, .int .u64 (w8 (x * x + y * y + z * z)).e, .int .u64 (w8 (x * x + y * y + z * z)).f, .int .u64 (w8 (x * x + y * y + z * z)).g, .int .u64 (w8 (x * x + y * y + z * z)).h]
  have hW := below_setRow hW (g := w.heap.size + 1) (by omega) [.int .u64 (w8 (x * x + y * y + z * z)).a, .int .u64 (w8 (x * x + y * y + z * z)).b, .int .u64 (w8 (x * x + y * y + z * z)).c, .int .u64 (w8 (x * x + y * y + z * z)).d, .int .u64 (w8 (x * x + y * y + z * z)).e, .int .u64 (w8 (x * x + y * y + z * z)).f, .int .u64 (w8 (x * x + y * y + z * z)).g, .int .u64 (w8 (x * x + y * y + z * z)).h].toArray
  refine wpList_nil ?_
  go_wp2
  exact bodyPost_ret (v := .agg #[.int .u64 (w8 (x * x + y * y + z * z)).a, .int .u64 (w8 (x * x + y * y + z * z)).b, .int .u64 (w8 (x * x + y * y + z * z)).c, .int .u64 (w8 (x * x + y * y + z * z)).d, .int .u64 (w8 (x * x + y * y + z * z)).e, .int .u64 (w8 (x * x + y * y + z * z)).f, .int .u64 (w8 (x * x + y * y + z * z)).g, .int .u64 (w8 (x * x + y * y + z * z)).h]) (results_cell_row Try.results42 _ _ _ _ _ _ _ (by rfl) hR Try.underlying37 (by rfl) (by kernel_rfl)) rfl ⟨rfl, hW⟩
set_option maxHeartbeats 2000000 in
theorem farR {a b : Pt} (ha : a.ok) (hb : b.ok) (w : World) : RetB Try.prog 25 #[.agg #[.int .i64 a.x, .int .i64 a.y, .int .i64 a.z], .agg #[.int .i64 b.x, .int .i64 b.y, .int .i64 b.z]] w (.agg #[.int .u64 (w8 (GDot.far a b)).a, .int .u64 (w8 (GDot.far a b)).b, .int .u64 (w8 (GDot.far a b)).c, .int .u64 (w8 (GDot.far a b)).d, .int .u64 (w8 (GDot.far a b)).e, .int .u64 (w8 (GDot.far a b)).f, .int .u64 (w8 (GDot.far a b)).g, .int .u64 (w8 (GDot.far a b)).h]) := by
  have hd := PSp.psub_sP ha hb
  have O1 := Lib.hid (fun w => sub7C a b ha hb w)
  have O2 := Lib.hid (fun w => dotR hd hd w)
  clear hd
  unfold RetB
  go_enter Try.func25, Try.ntmps25
  go_wp2_with fail
  refine (O1.out _).mono ?_
  rintro e w1 ⟨rfl, hS⟩
  have hR : Box w1 (w.heap.size + 1 + 1) [.int .u64 0, .int .u64 0, .int .u64 0, .int .u64 0, .int .u64 0, .int .u64 0, .int .u64 0, .int .u64 0] 37 := (Box.new (by simp)).step hS
  have hW : Below w.heap.size w w1 := ((((Below.refl _ _).alloc (Nat.le_refl _) _).alloc (by simp) _).alloc (by simp; omega) _).trans (hS.mono (by simp; omega))
  clear hS
  have l0 := hR.lt
  go_wp2_with fail
  refine (O2.out _).mono ?_
  rintro e w2 ⟨rfl, hS⟩
  have hR := (hR.alloc (.cells #[.int .i64 (PSp.psub a b).x, .int .i64 (PSp.psub a b).y, .int .i64 (PSp.psub a b).z] 30)).step hS
  have hW := (hW.alloc hW.size (.cells #[.int .i64 (PSp.psub a b).x, .int .i64 (PSp.psub a b).y, .int .i64 (PSp.psub a b).z] 30)).trans (hS.mono (by have := hW.size; simp; omega))
  clear hS
  have l0 := hR.lt
  have q0 := (hR).cell 0; have q1 := (hR).cell 1; have q2 := (hR).cell 2; have q3 := (hR).cell 3; have q4 := (hR).cell 4; have q5 := (hR).cell 5; have q6 := (hR).cell 6; have q7 := (hR).cell 7; have qf := (hR).free
  simp only [List.getElem?_cons_zero, List.getElem?_cons_succ] at q0 q1 q2 q3 q4 q5 q6 q7
  go_wp2
  exact bodyPost_ret (v := .agg #[.int .u64 (w8 (GDot.far a b)).a, .int .u64 (w8 (GDot.far a b)).b, .int .u64 (w8 (GDot.far a b)).c, .int .u64 (w8 (GDot.far a b)).d, .int .u64 (w8 (GDot.far a b)).e, .int .u64 (w8 (GDot.far a b)).f, .int .u64 (w8 (GDot.far a b)).g, .int .u64 (w8 (GDot.far a b)).h]) (by simp [results, Try.results25, go_sem, GDot.far, *]) rfl ⟨rfl, ((((((((hW).setCell (by first | omega | (simp; done) | (simp; omega)) _).setCell (by first | omega | (simp; done) | (simp; omega)) _).setCell (by first | omega | (simp; done) | (simp; omega)) _).setCell (by first | omega | (simp; done) | (simp; omega)) _).setCell (by first | omega | (simp; done) | (simp; omega)) _).setCell (by first | omega | (simp; done) | (simp; omega)) _).setCell (by first | omega | (simp; done) | (simp; omega)) _).setCell (by first | omega | (simp; done) | (simp; omega)) _⟩
set_option maxRecDepth 100000 in
set_option maxHeartbeats 2000000 in
theorem areaR {a b c : Pt} (ha : a.ok) (hb : b.ok) (hc : c.ok) (w : World) : RetB Try.prog 27 #[.agg #[.int .i64 a.x, .int .i64 a.y, .int .i64 a.z], .agg #[.int .i64 b.x, .int .i64 b.y, .int .i64 b.z], .agg #[.int .i64 c.x, .int .i64 c.y, .int .i64 c.z]] w (.agg #[.int .u64 (w8 (area a b c)).a, .int .u64 (w8 (area a b c)).b, .int .u64 (w8 (area a b c)).c, .int .u64 (w8 (area a b c)).d, .int .u64 (w8 (area a b c)).e, .int .u64 (w8 (area a b c)).f, .int .u64 (w8 (area a b c)).g, .int .u64 (w8 (area a b c)).h]) := by
  have hu := PSp.psub_sP hb ha; have hv := PSp.psub_sP hc ha
  have O1 := Lib.hid (fun w => sub7C b a hb ha w)
  have O2 := Lib.hid (fun w => sub7C c a hc ha w)
  have O3 := Lib.hid (fun w => crossR hu hv w)
  have O4 := Lib.hid (fun w => sqR (cx61 hu hv) (cy61 hu hv) (cz61 hu hv) w)
  clear hu hv ha hb hc
  unfold RetB
  go_enter Try.func27, Try.ntmps27
  go_wp2
  have hA : Box ((((w.alloc (.cells #[.int .i64 a.x, .int .i64 a.y, .int .i64 a.z] 30)).alloc (.cells #[.int .i64 b.x, .int .i64 b.y, .int .i64 b.z] 30)).alloc (.cells #[.int .i64 c.x, .int .i64 c.y, .int .i64 c.z] 30)).alloc (.cells [.int .u64 0, .int .u64 0, .int .u64 0, .int .u64 0, .int .u64 0, .int .u64 0, .int .u64 0, .int .u64 0].toArray 37)) w.heap.size [.int .i64 a.x, .int .i64 a.y, .int .i64 a.z] 30 := (((Box.new rfl).alloc _).alloc _).alloc _
  have hB : Box ((((w.alloc (.cells #[.int .i64 a.x, .int .i64 a.y, .int .i64 a.z] 30)).alloc (.cells #[.int .i64 b.x, .int .i64 b.y, .int .i64 b.z] 30)).alloc (.cells #[.int .i64 c.x, .int .i64 c.y, .int .i64 c.z] 30)).alloc (.cells [.int .u64 0, .int .u64 0, .int .u64 0, .int .u64 0, .int .u64 0, .int .u64 0, .int .u64 0, .int .u64 0].toArray 37)) (w.heap.size + 1) [.int .i64 b.x, .int .i64 b.y, .int .i64 b.z] 30 := ((Box.new (by simp)).alloc _).alloc _
  have hC : Box ((((w.alloc (.cells #[.int .i64 a.x, .int .i64 a.y, .int .i64 a.z] 30)).alloc (.cells #[.int .i64 b.x, .int .i64 b.y, .int .i64 b.z] 30)).alloc (.cells #[.int .i64 c.x, .int .i64 c.y, .int .i64 c.z] 30)).alloc (.cells [.int .u64 0, .int .u64 0, .int .u64 0, .int .u64 0, .int .u64 0, .int .u64 0, .int .u64 0, .int .u64 0].toArray 37)) (w.heap.size + 1 + 1) [.int .i64 c.x, .int .i64 c.y, .int .i64 c.z] 30 := (Box.new (by simp)).alloc _
  have hR : Box ((((w.alloc (.cells #[.int .i64 a.x, .int .i64 a.y, .int .i64 a.z] 30)).alloc (.cells #[.int .i64 b.x, .int .i64 b.y, .int .i64 b.z] 30)).alloc (.cells #[.int .i64 c.x, .int .i64 c.y, .int .i64 c.z] 30)).alloc (.cells [.int .u64 0, .int .u64 0, .int .u64 0, .int .u64 0, .int .u64 0, .int .u64 0, .int .u64 0, .int .u64 0].toArray 37)) (w.heap.size + 1 + 1 + 1) [.int .u64 0, .int .u64 0, .int .u64 0, .int .u64 0, .int .u64 0, .int .u64 0, .int .u64 0, .int .u64 0] 37 := Box.new (by simp)
  have hW : Below w.heap.size w ((((w.alloc (.cells #[.int .i64 a.x, .int .i64 a.y, .int .i64 a.z] 30)).alloc (.cells #[.int .i64 b.x, .int .i64 b.y, .int .i64 b.z] 30)).alloc (.cells #[.int .i64 c.x, .int .i64 c.y, .int .i64 c.z] 30)).alloc (.cells [.int .u64 0, .int .u64 0, .int .u64 0, .int .u64 0, .int .u64 0, .int .u64 0, .int .u64 0, .int .u64 0].toArray 37)) := ((((Below.refl _ _).alloc (Nat.le_refl _) _).alloc (by simp) _).alloc (by simp; omega) _).alloc (by simp; omega) _
  revert hA hB hC hR hW
  generalize ((((w.alloc (.cells #[.int .i64 a.x, .int .i64 a.y, .int .i64 a.z] 30)).alloc (.cells #[.int .i64 b.x, .int .i64 b.y, .int .i64 b.z] 30)).alloc (.cells #[.int .i64 c.x, .int .i64 c.y, .int .i64 c.z] 30)).alloc (.cells [.int .u64 0, .int .u64 0, .int .u64 0, .int .u64 0, .int .u64 0, .int .u64 0, .int .u64 0, .int .u64 0].toArray 37)) = w2
  intro hA hB hC hR hW
  have mR := hR.lt
  refine wp_region_ph [(8, .free [])] (by kernel_rfl) (by kernel_rfl) ?_
  refine Ph.belowd ?_
  simp only [List.drop_succ_cons, List.drop_zero, List.take_succ_cons, List.take_zero, Nat.reduceSub, Nat.sub_zero]
  refine SeqO.row (l := [.int .i64 b.x, .int .i64 b.y, .int .i64 b.z]) (by rfl) (by rfl) hB Try.underlying30 (by rfl) (by kernel_rfl) (by rfl) (by rfl) ?_
  simp only [Act.put, List.setIfInBounds_toArray, List.set_cons_zero, List.set_cons_succ]
  refine SeqO.row (l := [.int .i64 a.x, .int .i64 a.y, .int .i64 a.z]) (by rfl) (by rfl) hA Try.underlying30 (by rfl) (by kernel_rfl) (by rfl) (by rfl) ?_
  simp only [Act.put, List.setIfInBounds_toArray, List.set_cons_zero, List.set_cons_succ]
  refine SeqO.callv (by rfl) (by rfl) (by rfl) cf39 (by simp [Act.eval]) (fun w1 hS => O1.out w1) ?_
  simp only [Act.put, List.setIfInBounds_toArray, List.set_cons_zero, List.set_cons_succ]
  refine SeqO.row (l := [.int .i64 c.x, .int .i64 c.y, .int .i64 c.z]) (by rfl) (by rfl) hC Try.underlying30 (by rfl) (by kernel_rfl) (by rfl) (by rfl) ?_
  simp only [Act.put, List.setIfInBounds_toArray, List.set_cons_zero, List.set_cons_succ]
  refine SeqO.row (l := [.int .i64 a.x, .int .i64 a.y, .int .i64 a.z]) (by rfl) (by rfl) hA Try.underlying30 (by rfl) (by kernel_rfl) (by rfl) (by rfl) ?_
  simp only [Act.put, List.setIfInBounds_toArray, List.set_cons_zero, List.set_cons_succ]
  refine SeqO.callv (by rfl) (by rfl) (by rfl) cf39 (by simp [Act.eval]) (fun w1 hS => O2.out w1) ?_
  simp only [Act.put, List.setIfInBounds_toArray, List.set_cons_zero, List.set_cons_succ]
  refine SeqO.callv (by rfl) (by rfl) (by rfl) cf43 (by simp [Act.eval]) (fun w1 hS => O3.out w1) ?_
  simp only [Act.put, List.setIfInBounds_toArray, List.set_cons_zero, List.set_cons_succ]
  refine SeqO.callv (by rfl) (by rfl) (by rfl) cf42 (by simp [Act.eval]) (fun w1 hS => O4.out w1) ?_
  simp only [Act.put, List.setIfInBounds_toArray, List.set_cons_zero, List.set_cons_succ]
  refine SeqO.nil0 fun w3 hS3 => ?_
  refine Ph.last ?_
  simp only [List.drop_succ_cons, List.drop_zero, List.take_succ_cons, List.take_zero, Nat.reduceSub, Nat.sub_zero]
  have hR := hR.step hS3
  have hW := hW.trans (hS3.mono hW.size)
  refine wpL_store (cs := [.int .u64 (w8 (area a b c)).a, .int .u64 (w8 (area a b c)).b, .int .u64 (w8 (area a b c)).c, .int .u64 (w8 (area a b c)).d, .int .u64 (w8 (area a b c)).e, .int .u64 (w8 (area a b c)).f, .int .u64 (w8 (area a b c)).g, .int .u64 (w8 (area a b c)).h]) (by rfl) (by rfl) (by rfl) hR (by kernel_rfl) (by rfl) (by simp [Value.oneCell']) (by kernel_rfl) ?_
  conv => arg 5; simp only [Act.put, List.setIfInBounds_toArray, List.set_cons_zero, List.set_cons_succ]
  have hR := hR.row [.int .u64 (w8 (area a b c)).a, .int .u64 (w8 (area a b c)).b, .int .u64 (w8 (area a b c)).c, .int .u64 (w8 (area a b c)).d, .int .u64 (w8 (area a b c)).e, .int .u64 (w8 (area a b c)).f, .int .u64 (w8 (area a b c)).g, .int .u64 (w8 (area a b c)).h]
  have hW := below_setRow hW (g := w.heap.size + 1 + 1 + 1) (by omega) [.int .u64 (w8 (area a b c)).a, .int .u64 (w8 (area a b c)).b, .int .u64 (w8 (area a b c)).c, .int .u64 (w8 (area a b c)).d, .int .u64 (w8 (area a b c)).e, .int .u64 (w8 (area a b c)).f, .int .u64 (w8 (area a b c)).g, .int .u64 (w8 (area a b c)).h].toArray
  refine wpList_nil ?_
  go_wp2
  exact bodyPost_ret (v := .agg #[.int .u64 (w8 (area a b c)).a, .int .u64 (w8 (area a b c)).b, .int .u64 (w8 (area a b c)).c, .int .u64 (w8 (area a b c)).d, .int .u64 (w8 (area a b c)).e, .int .u64 (w8 (area a b c)).f, .int .u64 (w8 (area a b c)).g, .int .u64 (w8 (area a b c)).h]) (results_cell_row Try.results27 _ _ _ _ _ _ _ (by rfl) hR Try.underlying37 (by rfl) (by kernel_rfl)) rfl ⟨rfl, hW⟩
end PRb
end Go.Proofs.Ytbbiefgmlklafaa
namespace Go.Proofs.Ytbbiefgmlklafaa
set_option linter.unusedVariables false
set_option linter.unusedSimpArgs false
open Go.RowKit Go.NP
namespace PRc
theorem cf44 (args : Array Value) (w1 : World) : (callFunc 44 args).run Try.prog w1 = .ok (.enter 44 args) w1 := enters Try.func44 (by kernel_rfl) (by kernel_rfl) args w1
theorem cf41 (args : Array Value) (w1 : World) : (callFunc 41 args).run Try.prog w1 = .ok (.enter 41 args) w1 := enters Try.func41 (by kernel_rfl) (by kernel_rfl) args w1
theorem mayC (x : Int) (w : World) : RetB Try.prog 44 #[.int .i64 x] w (.bool (decide (okN x))) := by
  by_cases h1 : -268435456 ≤ x
  · by_cases h2 : x ≤ 268435456
    · have e1 : decide (x ≥ -268435456) = true := decide_eq_true h1
      have e2 : decide (x ≤ 268435456) = true := decide_eq_true h2
      rw [decide_eq_true (show okN x from ⟨h1, h2⟩)]
      unfold RetB
      go_enter Try.func44, Try.ntmps44
      go_wp2
      go_ret
      exact ⟨rfl, Below.refl _ _⟩
    · have e1 : decide (x ≥ -268435456) = true := decide_eq_true h1
      have e2 : decide (x ≤ 268435456) = false := decide_eq_false h2
      rw [decide_eq_false (fun h : okN x => h2 h.2)]
      unfold RetB
      go_enter Try.func44, Try.ntmps44
      go_wp2
      go_ret
      exact ⟨rfl, Below.refl _ _⟩
  · have e1 : decide (x ≥ -268435456) = false := decide_eq_false h1
    rw [decide_eq_false (fun h : okN x => h1 h.1)]
    unfold RetB
    go_enter Try.func44, Try.ntmps44
    go_wp2
    go_ret
    exact ⟨rfl, Below.refl _ _⟩
theorem ck6C (p : Pt) (w : World) : RetB Try.prog 29 #[.agg #[.int .i64 p.x, .int .i64 p.y, .int .i64 p.z]] w (.int .i64 (errIf p.ok)) := by
  by_cases hx : okN p.x
  · by_cases hy : okN p.y
    · by_cases hz : okN p.z
      · rw [errIf_pos (show p.ok from ⟨hx, hy, hz⟩)]
        unfold RetB
        go_enter Try.func29, Try.ntmps29
        have hW := (Below.refl w.heap.size w).alloc (Nat.le_refl _) (.cells #[.int .i64 p.x, .int .i64 p.y, .int .i64 p.z] 30)
        have hA : Box (w.alloc (.cells #[.int .i64 p.x, .int .i64 p.y, .int .i64 p.z] 30)) w.heap.size [.int .i64 p.x, .int .i64 p.y, .int .i64 p.z] 30 := Box.new rfl
        go_wp2_with fail
        refine ((mayC p.x _).eq (v' := .bool true) (by simp [hx])).mono ?_
        rintro e w2 ⟨rfl, hS⟩
        have hA := hA.step hS; have hW := hW.trans (hS.mono hW.size)
        clear hS
        have q0 := (hA).cell 0; have q1 := (hA).cell 1; have q2 := (hA).cell 2; have qf := (hA).free
        simp only [List.getElem?_cons_zero, List.getElem?_cons_succ] at q0 q1 q2
        go_wp2_with fail
        refine ((mayC p.y _).eq (v' := .bool true) (by simp [hy])).mono ?_
        rintro e w2 ⟨rfl, hS⟩
        have hA := hA.step hS; have hW := hW.trans (hS.mono hW.size)
        clear hS
        have q0 := (hA).cell 0; have q1 := (hA).cell 1; have q2 := (hA).cell 2; have qf := (hA).free
        simp only [List.getElem?_cons_zero, List.getElem?_cons_succ] at q0 q1 q2
        go_wp2_with fail
        refine ((mayC p.z _).eq (v' := .bool true) (by simp [hz])).mono ?_
        rintro e w2 ⟨rfl, hS⟩
        have hA := hA.step hS; have hW := hW.trans (hS.mono hW.size)
        clear hS
        have q0 := (hA).cell 0; have q1 := (hA).cell 1; have q2 := (hA).cell 2; have qf := (hA).free
        simp only [List.getElem?_cons_zero, List.getElem?_cons_succ] at q0 q1 q2
        go_wp2
        go_ret
        exact ⟨rfl, hW⟩
      · rw [errIf_neg (fun h : p.ok => hz h.2.2)]
        unfold RetB
        go_enter Try.func29, Try.ntmps29
        have hW := (Below.refl w.heap.size w).alloc (Nat.le_refl _) (.cells #[.int .i64 p.x, .int .i64 p.y, .int .i64 p.z] 30)
        have hA : Box (w.alloc (.cells #[.int .i64 p.x, .int .i64 p.y, .int .i64 p.z] 30)) w.heap.size [.int .i64 p.x, .int .i64 p.y, .int .i64 p.z] 30 := Box.new rfl
        go_wp2_with fail
        refine ((mayC p.x _).eq (v' := .bool true) (by simp [hx])).mono ?_
        rintro e w2 ⟨rfl, hS⟩
        have hA := hA.step hS; have hW := hW.trans (hS.mono hW.size)
        clear hS
        have q0 := (hA).cell 0; have q1 := (hA).cell 1; have q2 := (hA).cell 2; have qf := (hA).free
        simp only [List.getElem?_cons_zero, List.getElem?_cons_succ] at q0 q1 q2
        go_wp2_with fail
        refine ((mayC p.y _).eq (v' := .bool true) (by simp [hy])).mono ?_
        rintro e w2 ⟨rfl, hS⟩
        have hA := hA.step hS; have hW := hW.trans (hS.mono hW.size)
        clear hS
        have q0 := (hA).cell 0; have q1 := (hA).cell 1; have q2 := (hA).cell 2; have qf := (hA).free
        simp only [List.getElem?_cons_zero, List.getElem?_cons_succ] at q0 q1 q2
        go_wp2_with fail
        refine ((mayC p.z _).eq (v' := .bool false) (by simp [hz])).mono ?_
        rintro e w2 ⟨rfl, hS⟩
        have hA := hA.step hS; have hW := hW.trans (hS.mono hW.size)
        clear hS
        have q0 := (hA).cell 0; have q1 := (hA).cell 1; have q2 := (hA).cell 2; have qf := (hA).free
        simp only [List.getElem?_cons_zero, List.getElem?_cons_succ] at q0 q1 q2
        go_wp2
        go_ret
        exact ⟨rfl, hW⟩
    · rw [errIf_neg (fun h : p.ok => hy h.2.1)]
      unfold RetB
      go_enter Try.func29, Try.ntmps29
      have hW := (Below.refl w.heap.size w).alloc (Nat.le_refl _) (.cells #[.int .i64 p.x, .int .i64 p.y, .int .i64 p.z] 30)
      have hA : Box (w.alloc (.cells #[.int .i64 p.x, .int .i64 p.y, .int .i64 p.z] 30)) w.heap.size [.int .i64 p.x, .int .i64 p.y, .int .i64 p.z] 30 := Box.new rfl
      go_wp2_with fail
      refine ((mayC p.x _).eq (v' := .bool true) (by simp [hx])).mono ?_
      rintro e w2 ⟨rfl, hS⟩
      have hA := hA.step hS; have hW := hW.trans (hS.mono hW.size)
      clear hS
      have q0 := (hA).cell 0; have q1 := (hA).cell 1; have q2 := (hA).cell 2; have qf := (hA).free
      simp only [List.getElem?_cons_zero, List.getElem?_cons_succ] at q0 q1 q2
      go_wp2_with fail
      refine ((mayC p.y _).eq (v' := .bool false) (by simp [hy])).mono ?_
      rintro e w2 ⟨rfl, hS⟩
      have hA := hA.step hS; have hW := hW.trans (hS.mono hW.size)
      clear hS
      have q0 := (hA).cell 0; have q1 := (hA).cell 1; have q2 := (hA).cell 2; have qf := (hA).free
      simp only [List.getElem?_cons_zero, List.getElem?_cons_succ] at q0 q1 q2
      go_wp2
      go_ret
      exact ⟨rfl, hW⟩
  · rw [errIf_neg (fun h : p.ok => hx h.1)]
    unfold RetB
    go_enter Try.func29, Try.ntmps29
    have hW := (Below.refl w.heap.size w).alloc (Nat.le_refl _) (.cells #[.int .i64 p.x, .int .i64 p.y, .int .i64 p.z] 30)
    have hA : Box (w.alloc (.cells #[.int .i64 p.x, .int .i64 p.y, .int .i64 p.z] 30)) w.heap.size [.int .i64 p.x, .int .i64 p.y, .int .i64 p.z] 30 := Box.new rfl
    go_wp2_with fail
    refine ((mayC p.x _).eq (v' := .bool false) (by simp [hx])).mono ?_
    rintro e w2 ⟨rfl, hS⟩
    have hA := hA.step hS; have hW := hW.trans (hS.mono hW.size)
    clear hS
    have q0 := (hA).cell 0; have q1 := (hA).cell 1; have q2 := (hA).cell 2; have qf := (hA).free
    simp only [List.getElem?_cons_zero, List.getElem?_cons_succ] at q0 q1 q2
    go_wp2
    go_ret
    exact ⟨rfl, hW⟩
set_option maxRecDepth 100000 in
set_option maxHeartbeats 2000000 in
theorem lesserC {x y : Int} (hx : mid x) (hy : mid y) (w : World) : RetB Try.prog 28 #[.agg #[.int .u64 (w8 x).a, .int .u64 (w8 x).b, .int .u64 (w8 x).c, .int .u64 (w8 x).d, .int .u64 (w8 x).e, .int .u64 (w8 x).f, .int .u64 (w8 x).g, .int .u64 (w8 x).h], .agg #[.int .u64 (w8 y).a, .int .u64 (w8 y).b, .int .u64 (w8 y).c, .int .u64 (w8 y).d, .int .u64 (w8 y).e, .int .u64 (w8 y).f, .int .u64 (w8 y).g, .int .u64 (w8 y).h]] w (.agg #[.int .u64 (w8 (if x < y then x else y)).a, .int .u64 (w8 (if x < y then x else y)).b, .int .u64 (w8 (if x < y then x else y)).c, .int .u64 (w8 (if x < y then x else y)).d, .int .u64 (w8 (if x < y then x else y)).e, .int .u64 (w8 (if x < y then x else y)).f, .int .u64 (w8 (if x < y then x else y)).g, .int .u64 (w8 (if x < y then x else y)).h]) := by
  have O := Lib.hid (fun w => cmpB hx hy w)
  have HQ := Lib.hid (PCl.cmp_neg x y)
  clear hx hy
  obtain ⟨r, hr⟩ : ∃ r, (if x < y then x else y) = r := ⟨_, rfl⟩
  rw [hr]
  unfold RetB
  go_enter Try.func28, Try.ntmps28
  go_wp2_with fail
  refine (O.out _).mono ?_
  rintro e w1 ⟨rfl, hS⟩
  have hA : Box w1 w.heap.size [.int .u64 (w8 x).a, .int .u64 (w8 x).b, .int .u64 (w8 x).c, .int .u64 (w8 x).d, .int .u64 (w8 x).e, .int .u64 (w8 x).f, .int .u64 (w8 x).g, .int .u64 (w8 x).h] 37 := (((Box.new rfl).alloc _).alloc _).step hS
  have hB : Box w1 (w.heap.size + 1) [.int .u64 (w8 y).a, .int .u64 (w8 y).b, .int .u64 (w8 y).c, .int .u64 (w8 y).d, .int .u64 (w8 y).e, .int .u64 (w8 y).f, .int .u64 (w8 y).g, .int .u64 (w8 y).h] 37 := ((Box.new (by simp)).alloc _).step hS
  have hR : Box w1 (w.heap.size + 1 + 1) [.int .u64 0, .int .u64 0, .int .u64 0, .int .u64 0, .int .u64 0, .int .u64 0, .int .u64 0, .int .u64 0] 37 := (Box.new (by simp)).step hS
  have hW : Below w.heap.size w w1 := ((((Below.refl _ _).alloc (Nat.le_refl _) _).alloc (by simp) _).alloc (by simp; omega) _).trans (hS.mono (by simp; omega))
  clear hS
  have l0 := hR.lt
  have q0 := (hR).cell 0; have q1 := (hR).cell 1; have q2 := (hR).cell 2; have q3 := (hR).cell 3; have q4 := (hR).cell 4; have q5 := (hR).cell 5; have q6 := (hR).cell 6; have q7 := (hR).cell 7; have qf := (hR).free
  simp only [List.getElem?_cons_zero, List.getElem?_cons_succ] at q0 q1 q2 q3 q4 q5 q6 q7
  have a0 := (hA).cell 0; have a1 := (hA).cell 1; have a2 := (hA).cell 2; have a3 := (hA).cell 3; have a4 := (hA).cell 4; have a5 := (hA).cell 5; have a6 := (hA).cell 6; have a7 := (hA).cell 7; have af := (hA).free
  simp only [List.getElem?_cons_zero, List.getElem?_cons_succ] at a0 a1 a2 a3 a4 a5 a6 a7
  have b0 := (hB).cell 0; have b1 := (hB).cell 1; have b2 := (hB).cell 2; have b3 := (hB).cell 3; have b4 := (hB).cell 4; have b5 := (hB).cell 5; have b6 := (hB).cell 6; have b7 := (hB).cell 7; have bf := (hB).free
  simp only [List.getElem?_cons_zero, List.getElem?_cons_succ] at b0 b1 b2 b3 b4 b5 b6 b7
  by_cases h : cmpI x y < 0
  · have e : decide (cmpI x y < 0) = true := decide_eq_true h
    rw [if_pos (HQ.out.1 h)] at hr
    subst hr
    generalize cmpI x y = c at *
    clear HQ O
    go_wp2
    exact bodyPost_ret (v := .agg #[.int .u64 (w8 x).a, .int .u64 (w8 x).b, .int .u64 (w8 x).c, .int .u64 (w8 x).d, .int .u64 (w8 x).e, .int .u64 (w8 x).f, .int .u64 (w8 x).g, .int .u64 (w8 x).h]) (by simp [results, Try.results28, go_sem, *]) rfl ⟨rfl, ((((((((hW).setCell (by first | omega | (simp; done) | (simp; omega)) _).setCell (by first | omega | (simp; done) | (simp; omega)) _).setCell (by first | omega | (simp; done) | (simp; omega)) _).setCell (by first | omega | (simp; done) | (simp; omega)) _).setCell (by first | omega | (simp; done) | (simp; omega)) _).setCell (by first | omega | (simp; done) | (simp; omega)) _).setCell (by first | omega | (simp; done) | (simp; omega)) _).setCell (by first | omega | (simp; done) | (simp; omega)) _⟩
  · have e : decide (cmpI x y < 0) = false := decide_eq_false h
    rw [if_neg (fun h' => h (HQ.out.2 h'))] at hr
    subst hr
    generalize cmpI x y = c at *
    clear HQ O
    go_wp2
    exact bodyPost_ret (v := .agg #[.int .u64 (w8 y).a, .int .u64 (w8 y).b, .int .u64 (w8 y).c, .int .u64 (w8 y).d, .int .u64 (w8 y).e, .int .u64 (w8 y).f, .int .u64 (w8 y).g, .int .u64 (w8 y).h]) (by simp [results, Try.results28, go_sem, *]) rfl ⟨rfl, ((((((((hW).setCell (by first | omega | (simp; done) | (simp; omega)) _).setCell (by first | omega | (simp; done) | (simp; omega)) _).setCell (by first | omega | (simp; done) | (simp; omega)) _).setCell (by first | omega | (simp; done) | (simp; omega)) _).setCell (by first | omega | (simp; done) | (simp; omega)) _).setCell (by first | omega | (simp; done) | (simp; omega)) _).setCell (by first | omega | (simp; done) | (simp; omega)) _).setCell (by first | omega | (simp; done) | (simp; omega)) _⟩
end PRc
end Go.Proofs.Ytbbiefgmlklafaa
namespace Go.Proofs.Ytbbiefgmlklafaa
set_option linter.unusedVariables false
set_option linter.unusedSimpArgs false
open Go.RowKit Go.NP
def wv (x : Int) : List Value := [.int .u64 (w8 x).a, .int .u64 (w8 x).b, .int .u64 (w8 x).c, .int .u64 (w8 x).d, .int .u64 (w8 x).e, .int .u64 (w8 x).f, .int .u64 (w8 x).g, .int .u64 (w8 x).h]
/-- A row of wide numbers. -/
def WAt (w : World) (b off : Nat) (l : List Int) : Prop := ∀ (k : Nat) x, l[k]? = some x → At' w b (off + k * 8) (wv x)
theorem WAt.step {w w' : World} {b off : Nat} {l : List Int} (h : WAt w b off l) (hb : b < w.heap.size) (hS : Below w.heap.size w w') : WAt w' b off l := fun k s hk => (h k s hk).step hb hS
/-- A slice of wide numbers. -/
def SlW (w : World) (A : Option Addr) (n : Nat) (l : List Int) : Prop := l.length = n ∧ (0 < n → ∃ b off, A = some ⟨b, off, none⟩ ∧ b < w.heap.size ∧ WAt w b off l)
theorem SlW.step {w w' : World} {A : Option Addr} {n : Nat} {l : List Int} (h : SlW w A n l) (hS : Below w.heap.size w w') : SlW w' A n l :=
  ⟨h.1, fun hn => by obtain ⟨b, off, h1, h2, h3⟩ := h.2 hn; exact ⟨b, off, h1, by have := hS.size; omega, h3.step h2 hS⟩⟩
/-- The cells of wide numbers. -/
def wvs (l : List Int) : List Value := l.flatMap wv
theorem wvs_len (l : List Int) : (wvs l).length = l.length * 8 := by
  induction l with
  | nil => rfl
  | cons x r ih => rw [wvs, List.flatMap_cons, List.length_append, List.length_cons]; rw [wvs] at ih; rw [ih]; simp [wv]; omega
theorem wvs_append (l m : List Int) : wvs (l ++ m) = wvs l ++ wvs m := by unfold wvs; rw [List.flatMap_append]
theorem wvs_get : ∀ (l : List Int) (k : Nat) (s : Int) (j : Nat) (v : Value), l[k]? = some s → (wv s)[j]? = some v → (wvs l)[k * 8 + j]? = some v
  | [], _, _, _, _, h, _ => by cases h
  | x :: r, 0, s, j, v, h, hv => by
    obtain rfl : x = s := by simpa using h
    rw [wvs, List.flatMap_cons, Nat.zero_mul, Nat.zero_add]
    have hj : j < (wv x).length := PCl.get_lt hv
    rw [List.getElem?_append_left hj]; exact hv
  | x :: r, k + 1, s, j, v, h, hv => by
    have h' : r[k]? = some s := by simpa using h
    have ih := wvs_get r k s j v h' hv
    rw [wvs, List.flatMap_cons]
    rw [show (k + 1) * 8 + j = (wv x).length + (k * 8 + j) by simp [wv]; omega, List.getElem?_append_right (by omega), Nat.add_sub_cancel_left]
    exact ih
theorem wvs_at {l : List Int} {j : Nat} {v : Value} (h : (wvs l)[j]? = some v) : ∃ s, l[j / 8]? = some s ∧ (wv s)[j % 8]? = some v := by
  have hj : j < l.length * 8 := by rw [← wvs_len]; exact PCl.get_lt h
  have hk : j / 8 < l.length := by omega
  refine ⟨l[j / 8], List.getElem?_eq_getElem hk, ?_⟩
  have h5 : j % 8 < (wv l[j / 8]).length := by simp [wv]; omega
  have := wvs_get l (j / 8) l[j / 8] (j % 8) _ (List.getElem?_eq_getElem hk) (List.getElem?_eq_getElem h5)
  rw [show j / 8 * 8 + j % 8 = j by omega, h] at this
  rw [List.getElem?_eq_getElem h5, ← Option.some.inj this]
theorem wv_one {s : Int} : ∀ v ∈ wv s, v.oneCell' = true := by simp [wv, Value.oneCell']
theorem wvs_one {l : List Int} : ∀ v ∈ wvs l, v.oneCell' = true := fun v hv => by
  obtain ⟨s, _, h⟩ := List.mem_flatMap.1 hv
  exact wv_one v h
/-- A slice of one's own that holds these numbers. -/
def OwnW (w : World) (base : Nat) (v : Value) (l : List Int) : Prop := w.ownsRow base 37 8 v l.length (wvs l)
theorem OwnW.sl {w : World} {base : Nat} {v : Value} {l : List Int} (h : OwnW w base v l) : ∃ A cap, v = .slice A l.length cap ∧ SlW w A l.length l := by
  rcases h.2 with ⟨rfl, h0⟩ | ⟨g, cap, cur, rfl, hb, hg, hc, hm, hsz, hx⟩
  · exact ⟨none, 0, by rw [h0], rfl, fun h => absurd h (by omega)⟩
  · refine ⟨some ⟨g, 0, none⟩, cap, rfl, rfl, fun _ => ⟨g, 0, rfl, (Array.getElem?_eq_some_iff.1 hg).1, fun k s hk j v hv => ?_⟩⟩
    have h1 := wvs_get l k s j v hk hv
    rw [← hx] at h1
    have h2 : k * 8 + j < l.length * 8 := by have := PCl.get_lt h1; rw [hx, wvs_len] at this; exact this
    rw [List.getElem?_take_of_lt h2] at h1
    simp only [World.cell?, hg, Nat.zero_add]
    simpa using h1
theorem OwnW.nil (w : World) (base : Nat) : OwnW w base (.slice none 0 0) [] := ⟨rfl, .inl ⟨rfl, rfl⟩⟩
theorem OwnW.step {w w' : World} {base : Nat} {v : Value} {l : List Int} (h : OwnW w base v l) (hS : Below w.heap.size w w') : OwnW w' base v l := by
  refine ⟨h.1, ?_⟩
  rcases h.2 with h1 | ⟨g, cap, cur, h1, hb, hg, h2⟩
  · exact .inl h1
  · exact .inr ⟨g, cap, cur, h1, hb, (hS.block g (Array.getElem?_eq_some_iff.1 hg).1).trans hg, h2⟩
theorem OwnW.mono {w : World} {base base' : Nat} {v : Value} {l : List Int} (h : OwnW w base v l) (hb : base' ≤ base) : OwnW w base' v l := by
  refine ⟨h.1, ?_⟩
  rcases h.2 with h1 | ⟨g, cap, cur, h1, hb', h2⟩
  · exact .inl h1
  · exact .inr ⟨g, cap, cur, h1, by omega, h2⟩
theorem ownBlock_geW {w : World} {base : Nat} {v : Value} {l : List Int} (h : OwnW w base v l) : ∀ j, v.ownBlock = some j → base ≤ j := fun j hj => by
  rcases h.2 with ⟨rfl, _⟩ | ⟨g, cap, cur, rfl, hb, _⟩
  · simp [Value.ownBlock] at hj
  · obtain rfl : g = j := by simpa [Value.ownBlock] using hj
    exact hb
theorem infoWd : (Try.prog.info? 37).map (fun i => (i.zero, i.size, i.bytes)) = some (some (.agg #[.int .u64 0, .int .u64 0, .int .u64 0, .int .u64 0, .int .u64 0, .int .u64 0, .int .u64 0, .int .u64 0]), 8, 64) := by kernel_rfl
theorem wpL_appW {ops : Array Oper} {r : List Oper} {o : Oper} {a : Act} {Q : Exit → Act → World → Prop} {w : World} {base g : Nat} {v : Value} {l : List Int} {t : Int} (hgd : o.guard = none) (s x : Operand)
    (ho : o.op = .call { callee := .builtin .append, args := #[s, x], argTypes := #[51, 51] }) (hs : a.eval s = v) (hown : OwnW w base v l) (hx : a.eval x = .slice (some ⟨g, 0, none⟩) 1 1) (hat : At' w g 0 (wv t)) (hl : l.length ≤ 100000) (hb : base ≤ w.heap.size)
    (h : ∀ v' w', OwnW w' base v' (l ++ [t]) → (∀ w0, Below base w0 w → Below base w0 w') → wpList Try.prog ops Q r (a.put o.dst v') w') : wpList Try.prog ops Q (o :: r) a w := by
  obtain ⟨i0, hi0, hz0, hz1, hz2⟩ := info_parts infoWd
  refine wpList_append_own _ hgd s x 51 ho base 37 i0 (.agg #[.int .u64 0, .int .u64 0, .int .u64 0, .int .u64 0, .int .u64 0, .int .u64 0, .int .u64 0, .int .u64 0]) 8 64 Try.underlying51 hi0 hz0 hz1 hz2 rfl (by decide) v l.length (wvs l) hs hown ⟨g, 0, none⟩ 1 1 (wv t) hx rfl (fun j u hj => ?_) wv_one (by unfold maxLen; omega) (by omega) hb ?_
  · have := hat j u hj
    have hadd : (⟨g, 0, none⟩ : Addr).add j = ⟨g, 0 + j, none⟩ := by unfold Addr.add; split <;> simp_all
    rw [hadd]; exact this
  · intro v' w' h1 h2 _
    refine h v' w' ?_ fun w0 hB => hB.grown h2 hb fun k hk => ownBlock_geW hown k hk
    unfold OwnW
    rw [wvs_append, List.length_append]
    simpa [wvs] using h1
end Go.Proofs.Ytbbiefgmlklafaa
namespace Go.Proofs.Ytbbiefgmlklafaa
set_option linter.unusedVariables false
set_option linter.unusedSimpArgs false
open Go.RowKit Go.NP
namespace PRd
open PGr PCl PPl PSo
theorem cf41 (args : Array Value) (w1 : World) : (callFunc 41 args).run Try.prog w1 = .ok (.enter 41 args) w1 := enters Try.func41 (by kernel_rfl) (by kernel_rfl) args w1
theorem best_zero (f : Spo → Int) (l : List Spo) : (best f (l.take 1)).at_ = 0 := by
  cases l with
  | nil => rfl
  | cons x r => simp [best, PGr.step]
set_option maxRecDepth 100000 in
set_option maxHeartbeats 2000000 in
theorem firstC (f : Spo → Int) {A : Option Addr} {n cap : Nat} {l : List Spo} (w : World) (h : SlW w A n (l.map f)) (hm : ∀ s ∈ l, mid (f s)) (hi : n ≤ 1000000) : RetB Try.prog 26 #[.slice A n cap] w (.int .i64 ((best f l).at_ : Nat)) := by
  have hln : l.length = n := by have := h.1; rwa [List.length_map] at this
  have H := Lib.hid h; have HM := Lib.hid hm
  obtain ⟨r, hr⟩ : ∃ r, (best f l).at_ = r := ⟨_, rfl⟩
  have HR := Lib.hid hr
  rw [hr]
  clear h hm hr
  unfold RetB
  go_enter Try.func26, Try.ntmps26
  go_wp2
  go_loopw [3, 4] (fun bv i wr => ∃ k : Nat, 1 ≤ k ∧ (k ≤ n ∨ k = 1) ∧ i = .int .i64 k ∧ bv = .int .i64 ((best f (l.take k)).at_ : Nat) ∧ Below w.heap.size w wr) (fun _ i _ => n - (intOf i).toNat)
  case atStart => exact ⟨1, Nat.le_refl _, .inr rfl, rfl, by rw [best_zero]; rfl, Below.refl _ _⟩
  case round =>
    obtain ⟨k, hk1, hk, rfl, rfl, hW⟩ := hrel
    by_cases hlt : k < n
    · obtain ⟨b, off, rfl, hb, hs⟩ := H.out.2 (by omega)
      have t1 : decide ((k : Int) < (n : Int)) = true := by simpa using hlt
      obtain ⟨hbm, hbge⟩ := best_ge f l k (by omega)
      have hx := nth_get (l := l) (k := k) (by omega)
      have hbk : (best f (l.take k)).k = k := by rw [best_k, List.length_take]; omega
      have hlt2 : (best f (l.take k)).at_ < n := by
        have h0 : (l.take k).length ≠ 0 := by rw [List.length_take]; omega
        have h1 := best_lt f (l := l.take k) (fun e => h0 (by rw [e]; rfl))
        rw [List.length_take] at h1; omega
      have hstep : best f (l.take (k + 1)) = PGr.step f (best f (l.take k)) (nth l k) := by rw [take_snoc hx, best_snoc]
      have hbm := hbm (by omega)
      have at1 := Lib.hid ((hs.step hb hW) k (f (nth l k)) (by rw [List.getElem?_map, hx]; rfl))
      have at2 := Lib.hid ((hs.step hb hW) (best f (l.take k)).at_ (best f (l.take k)).m (by rw [List.getElem?_map, nth_get (by omega), hbm]; rfl))
      have m1 : mid (f (nth l k)) := HM.out _ (nth_mem (by omega))
      have m2 : mid (best f (l.take k)).m := by rw [hbm]; exact HM.out _ (nth_mem (by omega))
      have O := Lib.hid (fun w => cmpB m1 m2 w)
      have HQ := Lib.hid (cmp_pos (f (nth l k)) (best f (l.take k)).m)
      have HY := Lib.hid (fun c => hstep.trans (step_yes (f := f) (s := nth l k) hbk (.inr c)))
      have HN := Lib.hid (fun c => hstep.trans (step_no (f := f) (s := nth l k) hbk (by omega) c))
      have hbz : b < wr.heap.size := by have := hW.size; omega
      clear hs hbm hbge hx hbk hstep m1 m2
      generalize best f (l.take k) = B at *
      generalize f (nth l k) = x at *
      obtain ⟨Bk, Ba, Bm⟩ := B
      simp only at hlt2 at1 at2 O HQ HY HN
      iterate 4 go_step
      iterate 4 (with_reducible refine wpL_val (v := ?_) ?_ ?_ ?_; rotate_left; (· kernel_rfl); (· go_simp; try with_reducible rfl); conv => arg 5; simp only [Act.put, List.setIfInBounds_toArray, List.set_cons_zero, List.set_cons_succ])
      refine wpList_nil ?_
      iterate 9 go_step
      refine wp_region_ph [(10, .free [])] (by kernel_rfl) (by kernel_rfl) ?_
      refine Ph.belowd ?_
      simp only [List.drop_succ_cons, List.drop_zero, List.take_succ_cons, List.take_zero, Nat.reduceSub, Nat.sub_zero]
      iterate 3 (refine SeqO.val (v := ?_) (by rfl) (by rfl) (fun w1 hS => ?_) ?_; rotate_left; (· obtain ⟨hc, hcf⟩ := bcell hS; go_simp; try with_reducible rfl); simp only [Act.put, List.setIfInBounds_toArray, List.set_cons_zero, List.set_cons_succ])
      refine SeqO.at (l := [.int .u64 (w8 x).a, .int .u64 (w8 x).b, .int .u64 (w8 x).c, .int .u64 (w8 x).d, .int .u64 (w8 x).e, .int .u64 (w8 x).f, .int .u64 (w8 x).g, .int .u64 (w8 x).h]) (by rfl) (by rfl) hbz at1.out Try.underlying37 (by rfl) (by kernel_rfl) (by rfl) (by rfl) ?_
      simp only [Act.put, List.setIfInBounds_toArray, List.set_cons_zero, List.set_cons_succ]
      iterate 3 (refine SeqO.val (v := ?_) (by rfl) (by rfl) (fun w1 hS => ?_) ?_; rotate_left; (· obtain ⟨hc, hcf⟩ := bcell hS; go_simp; try with_reducible rfl); simp only [Act.put, List.setIfInBounds_toArray, List.set_cons_zero, List.set_cons_succ])
      refine SeqO.at (l := [.int .u64 (w8 Bm).a, .int .u64 (w8 Bm).b, .int .u64 (w8 Bm).c, .int .u64 (w8 Bm).d, .int .u64 (w8 Bm).e, .int .u64 (w8 Bm).f, .int .u64 (w8 Bm).g, .int .u64 (w8 Bm).h]) (by rfl) (by rfl) hbz at2.out Try.underlying37 (by rfl) (by kernel_rfl) (by rfl) (by rfl) ?_
      simp only [Act.put, List.setIfInBounds_toArray, List.set_cons_zero, List.set_cons_succ]
      refine SeqO.callv (by rfl) (by rfl) (by rfl) cf41 (by simp [Act.eval]) (fun w1 hS => O.out w1) ?_
      simp only [Act.put, List.setIfInBounds_toArray, List.set_cons_zero, List.set_cons_succ]
      iterate 1 (refine SeqO.val (v := ?_) (by rfl) (by rfl) (fun w1 hS => ?_) ?_; rotate_left; (· obtain ⟨hc, hcf⟩ := bcell hS; go_simp; try with_reducible rfl); simp only [Act.put, List.setIfInBounds_toArray, List.set_cons_zero, List.set_cons_succ])
      refine SeqO.nil0 fun w3 hS3 => ?_
      refine Ph.last ?_
      simp only [List.drop_succ_cons, List.drop_zero, List.take_succ_cons, List.take_zero, Nat.reduceSub, Nat.sub_zero]
      have hW := hW.trans (hS3.mono hW.size)
      refine wpList_nil ?_
      by_cases c : 0 < cmpI x Bm
      · have e : decide (cmpI x Bm > 0) = true := decide_eq_true c
        have hst := HY.out (HQ.out.1 c)
        generalize cmpI x Bm = cc at *
        clear HY HN HQ O at1 at2
        go_wp2
        exact ⟨⟨k + 1, by omega, by omega, by simp, by rw [hst], hW⟩, by simp [intOf]; omega⟩
      · have e : decide (cmpI x Bm > 0) = false := decide_eq_false c
        have hst := HN.out (fun h => c (HQ.out.2 h))
        generalize cmpI x Bm = cc at *
        clear HY HN HQ O at1 at2
        go_wp2
        exact ⟨⟨k + 1, by omega, by omega, by simp, by rw [hst], hW⟩, by simp [intOf]; omega⟩
    · have t1 : decide ((k : Int) < (n : Int)) = false := by simpa using hlt
      rw [List.take_of_length_le (by omega)]
      have hr := HR.out
      rw [hr]
      go_wp2
      go_ret
      exact ⟨rfl, hW⟩
end PRd
end Go.Proofs.Ytbbiefgmlklafaa
namespace Go.Proofs.Ytbbiefgmlklafaa
set_option linter.unusedVariables false
set_option linter.unusedSimpArgs false
open Go.RowKit Go.NP
namespace PRe
open PGr PCk PCl
theorem cf29 (args : Array Value) (w1 : World) : (callFunc 29 args).run Try.prog w1 = .ok (.enter 29 args) w1 := enters Try.func29 (by kernel_rfl) (by kernel_rfl) args w1
def allOk (l : List Spo) : Bool := l.all fun s => decide s.p.ok
theorem allOk_iff {l : List Spo} : allOk l = true ↔ ∀ s ∈ l, s.p.ok := by unfold allOk; rw [List.all_eq_true]; simp
theorem allOk_no {l : List Spo} (h : ¬ ∀ s ∈ l, s.p.ok) : allOk l = false := by
  cases e : allOk l
  · rfl
  · exact absurd (allOk_iff.1 e) h
theorem at_p {w : World} {b k : Nat} {s : Spo} (h : At' w b k (spv s)) : At' w b (k + 2) [.int .i64 s.p.x, .int .i64 s.p.y, .int .i64 s.p.z] := fun j v hv => by
  have := h (2 + j) v (by rw [Nat.add_comm]; exact hv)
  rw [Nat.add_assoc]; exact this
set_option maxRecDepth 100000 in
set_option maxHeartbeats 2000000 in
theorem checkBig {A : Option Addr} {n cap : Nat} (w : World) (hn : 256 < n) : RetB Try.prog 11 #[.slice A n cap] w (.int .i64 3) := by
  have t : decide ((n : Int) > 256) = true := decide_eq_true (by omega)
  unfold RetB
  go_enter Try.func11, Try.ntmps11
  go_wp2
  go_ret
  exact ⟨rfl, Below.refl _ _⟩
set_option maxRecDepth 100000 in
set_option maxHeartbeats 4000000 in
theorem checkFew {A : Option Addr} {n cap : Nat} {l : List Spo} (w : World) (h : SlS w A n l) (hn : n ≤ 256) : RetB Try.prog 11 #[.slice A n cap] w (.int .i64 (checkS l)) := by
  have t : decide ((n : Int) > 256) = false := decide_eq_false (by omega)
  have hln := h.1
  have H := Lib.hid h
  obtain ⟨r, hr⟩ : ∃ r, checkS l = r := ⟨_, rfl⟩
  have HR := Lib.hid (show (if named l then (if ∀ s ∈ l, s.p.ok then 0 else 7) else 2) = r from by rw [← hr]; unfold checkS; rw [if_neg (show ¬ 256 < l.length by omega)])
  have HB := Lib.hid (fun h : ¬ named l => (show r = 2 from by rw [← HR.out, if_neg h]))
  rw [hr]
  clear h hr
  unfold RetB
  go_enter Try.func11, Try.ntmps11
  go_wp2
  go_loopw [3, 4] (fun bd i wr => ∃ k : Nat, k ≤ n ∧ i = .int .i64 k ∧ bd = .bool (!allOk (l.take k)) ∧ named (l.take k) ∧ Below w.heap.size w wr) (fun _ i _ => n - (intOf i).toNat)
  case atStart => exact ⟨0, Nat.zero_le _, rfl, by simp [allOk], named_nil, Below.refl _ _⟩
  case round =>
    obtain ⟨k, hk, rfl, rfl, hnm, hW⟩ := hrel
    have HNM := Lib.hid hnm
    clear hnm
    by_cases hlt : k < n
    · obtain ⟨s, hs⟩ : ∃ s, l[k]? = some s := ⟨_, List.getElem?_eq_getElem (by omega)⟩
      obtain ⟨b, off, rfl, hb, hsl⟩ := H.out.2 (by omega)
      have HSL := Lib.hid hsl; have HS := Lib.hid hs
      have at1 := hsl.step hb hW k s hs
      have HTK := Lib.hid (take_snoc hs)
      have t1 : decide ((k : Int) < (n : Int)) = true := by simpa using hlt
      have z0 := at1 0 _ rfl; have z1 := at1 1 _ rfl
      simp only [Nat.add_zero] at z0 z1
      have hbz : b < wr.heap.size := by have := hW.size; omega
      have AT1 := Lib.hid at1
      have HOK := Lib.hid True.intro
      clear hs hsl at1
      by_cases c1 : s.side < 1
      · have hno : ¬ named l := bad HS.out (fun h => by have := h.1; omega)
        have e1 : decide (s.side < 1) = true := decide_eq_true c1
        clear HS HSL AT1
        have hr := HB.out hno
        clear hno HB HNM HR HOK HTK
        subst hr
        go_wp2
        go_ret
        exact ⟨rfl, hW⟩
      have e1 : decide (s.side < 1) = false := decide_eq_false c1
      by_cases c2 : s.side > 3
      · have hno : ¬ named l := bad HS.out (fun h => by have := h.2.1; omega)
        have e2 : decide (s.side > 3) = true := decide_eq_true c2
        clear HS HSL AT1
        have hr := HB.out hno
        clear hno HB HNM HR HOK HTK
        subst hr
        go_wp2
        go_ret
        exact ⟨rfl, hW⟩
      have e2 : decide (s.side > 3) = false := decide_eq_false c2
      by_cases c3 : s.at_ < 0
      · have hno : ¬ named l := bad HS.out (fun h => by have := h.2.2.1; omega)
        have e3 : decide (s.at_ < 0) = true := decide_eq_true c3
        clear HS HSL AT1
        have hr := HB.out hno
        clear hno HB HNM HR HOK HTK
        subst hr
        go_wp2
        go_ret
        exact ⟨rfl, hW⟩
      have e3 : decide (s.at_ < 0) = false := decide_eq_false c3
      by_cases c4 : s.at_ > 256
      · have hno : ¬ named l := bad HS.out (fun h => by have := h.2.2.2; omega)
        have e4 : decide (s.at_ > 256) = true := decide_eq_true c4
        clear HS HSL AT1
        have hr := HB.out hno
        clear hno HB HNM HR HOK HTK
        subst hr
        go_wp2
        go_ret
        exact ⟨rfl, hW⟩
      have e4 : decide (s.at_ > 256) = false := decide_eq_false c4
      have hok : okS s := ⟨by omega, by omega, by omega, by omega⟩
      have HOS := Lib.hid hok
      clear hok
      go_wp2_with fail
      clear z0 z1 e1 e2 e3 e4 c1 c2 c3 c4
      go_loopw [5] (fun j wr => ∃ i : Nat, i ≤ k ∧ j = .int .i64 i ∧ (∀ t ∈ l.take i, nmS t ≠ nmS s) ∧ Below w.heap.size w wr) (fun j _ => k - (intOf j).toNat)
      case atStart => exact ⟨0, Nat.zero_le _, rfl, fun t ht => (by simp at ht), hW⟩
      case round =>
        clear hW hbz AT1
        obtain ⟨j, hj, rfl, hne, hW⟩ := hrel
        have HNE := Lib.hid hne
        clear hne
        have at2 := HSL.out.step hb hW k s HS.out
        have hbz : b < wr.heap.size := by have := hW.size; omega
        have z2 := at2 0 _ rfl; have z3 := at2 1 _ rfl
        simp only [Nat.add_zero] at z2 z3
        by_cases hjk : j < k
        · obtain ⟨x, hx⟩ : ∃ x, l[j]? = some x := ⟨_, List.getElem?_eq_getElem (by omega)⟩
          have at1 := HSL.out.step hb hW j x hx
          have z0 := at1 0 _ rfl; have z1 := at1 1 _ rfl
          simp only [Nat.add_zero] at z0 z1
          have HTJ := Lib.hid (take_snoc hx)
          have HX := Lib.hid hx
          have t2 : decide ((j : Int) < (k : Int)) = true := by simpa using hjk
          clear hx at1 at2
          iterate 4 go_step
          iterate 3 (with_reducible refine wpL_val (v := ?_) ?_ ?_ ?_; rotate_left; (· kernel_rfl); (· go_simp; try with_reducible rfl); conv => arg 5; simp only [Act.put, List.setIfInBounds_toArray, List.set_cons_zero, List.set_cons_succ])
          refine wpList_nil ?_
          have hjn : j < n := by omega
          iterate 9 go_step
          refine wp_region_ph [(24, .free [])] (by kernel_rfl) (by kernel_rfl) ?_
          refine Ph.belowd ?_
          simp only [List.drop_succ_cons, List.drop_zero, List.take_succ_cons, List.take_zero, Nat.reduceSub, Nat.sub_zero]
          by_cases c5 : x.side = s.side
          · have e5 : (x.side == s.side) = true := by simpa using c5
            iterate 12 (refine SeqO.val (v := ?_) (by rfl) (by rfl) (fun w1 hS => ?_) ?_; rotate_left; (· obtain ⟨hc, hcf⟩ := bcell hS; go_simp; try with_reducible rfl); simp only [Act.put, List.setIfInBounds_toArray, List.set_cons_zero, List.set_cons_succ])
            by_cases c6 : x.at_ = s.at_
            · have e6 : (x.at_ == s.at_) = true := by simpa using c6
              iterate 12 (refine SeqO.val (v := ?_) (by rfl) (by rfl) (fun w1 hS => ?_) ?_; rotate_left; (· obtain ⟨hc, hcf⟩ := bcell hS; go_simp; try with_reducible rfl); simp only [Act.put, List.setIfInBounds_toArray, List.set_cons_zero, List.set_cons_succ])
              refine SeqO.nil0 fun w3 hS3 => ?_
              refine Ph.last ?_
              simp only [List.drop_succ_cons, List.drop_zero, List.take_succ_cons, List.take_zero, Nat.reduceSub, Nat.sub_zero]
              have hW := hW.trans (hS3.mono hW.size)
              refine wpList_nil ?_
              have hno : ¬ named l := twice HS.out (List.mem_map.2 ⟨x, List.mem_of_getElem? (by rw [List.getElem?_take_of_lt hjk]; exact HX.out), by unfold nmS; rw [c5, c6]⟩)
              clear HS HSL z0 z1 z2 z3 c5 c6 e5 e6 HTJ HX HNE hS3
              have hr := HB.out hno
              clear hno HB HNM HR HOK HTK
              subst hr
              go_wp2
              go_ret
              exact ⟨rfl, hW⟩
            · have e6 : (x.at_ == s.at_) = false := by simpa using c6
              iterate 12 (refine SeqO.val (v := ?_) (by rfl) (by rfl) (fun w1 hS => ?_) ?_; rotate_left; (· obtain ⟨hc, hcf⟩ := bcell hS; go_simp; try with_reducible rfl); simp only [Act.put, List.setIfInBounds_toArray, List.set_cons_zero, List.set_cons_succ])
              refine SeqO.nil0 fun w3 hS3 => ?_
              refine Ph.last ?_
              simp only [List.drop_succ_cons, List.drop_zero, List.take_succ_cons, List.take_zero, Nat.reduceSub, Nat.sub_zero]
              have hW := hW.trans (hS3.mono hW.size)
              refine wpList_nil ?_
              have hne' : ∀ y ∈ l.take (j + 1), nmS y ≠ nmS s := fun y hy => by
                rw [HTJ.out] at hy
                rcases List.mem_append.1 hy with hy | hy
                · exact HNE.out y hy
                · obtain rfl := List.mem_singleton.1 hy
                  intro e; exact c6 (congrArg Prod.snd e)
              clear HTJ HX HNE c5 c6 e5 e6 z0 z1 z2 z3 hS3
              go_wp2
              exact ⟨⟨j + 1, by omega, by simp, hne', hW⟩, by simp [intOf]; omega⟩
          · have e5 : (x.side == s.side) = false := by simpa using c5
            iterate 12 (refine SeqO.val (v := ?_) (by rfl) (by rfl) (fun w1 hS => ?_) ?_; rotate_left; (· obtain ⟨hc, hcf⟩ := bcell hS; go_simp; try with_reducible rfl); simp only [Act.put, List.setIfInBounds_toArray, List.set_cons_zero, List.set_cons_succ])
            iterate 11 (refine SeqO.skip (by rfl) (by rfl) ?_; simp only [Act.put, List.setIfInBounds_toArray, List.set_cons_zero, List.set_cons_succ])
            iterate 1 (refine SeqO.val (v := ?_) (by rfl) (by rfl) (fun w1 hS => ?_) ?_; rotate_left; (· obtain ⟨hc, hcf⟩ := bcell hS; go_simp; try with_reducible rfl); simp only [Act.put, List.setIfInBounds_toArray, List.set_cons_zero, List.set_cons_succ])
            refine SeqO.nil0 fun w3 hS3 => ?_
            refine Ph.last ?_
            simp only [List.drop_succ_cons, List.drop_zero, List.take_succ_cons, List.take_zero, Nat.reduceSub, Nat.sub_zero]
            have hW := hW.trans (hS3.mono hW.size)
            refine wpList_nil ?_
            have hne' : ∀ y ∈ l.take (j + 1), nmS y ≠ nmS s := fun y hy => by
              rw [HTJ.out] at hy
              rcases List.mem_append.1 hy with hy | hy
              · exact HNE.out y hy
              · obtain rfl := List.mem_singleton.1 hy
                intro e; exact c5 (congrArg Prod.fst e)
            clear HTJ HX HNE c5 e5 z0 z1 z2 z3 hS3
            go_wp2
            exact ⟨⟨j + 1, by omega, by simp, hne', hW⟩, by simp [intOf]; omega⟩
        · have hjk' : j = k := by omega
          subst hjk'
          have t2 : decide ((j : Int) < (j : Int)) = false := by simp
          have hnm : named (l.take (j + 1)) := named_snoc HS.out HNM.out HOS.out (fun hm => by
            obtain ⟨y, hy, e⟩ := List.mem_map.1 hm
            exact HNE.out y hy e)
          have hall : (∀ y ∈ l.take (j + 1), y.p.ok) ↔ (∀ y ∈ l.take j, y.p.ok) ∧ s.p.ok := by
            rw [HTK.out]
            constructor
            · exact fun h => ⟨fun y hy => h y (List.mem_append_left _ hy), h s (List.mem_append_right _ (List.mem_singleton.2 rfl))⟩
            · rintro ⟨h1, h2⟩ y hy
              rcases List.mem_append.1 hy with hy | hy
              · exact h1 y hy
              · obtain rfl := List.mem_singleton.1 hy; exact h2
          have HN2 := Lib.hid hnm; have HALL := Lib.hid hall
          have AT2 := Lib.hid at2
          have C6 := Lib.hid (fun w => PRc.ck6C s.p w)
          clear hnm hall at2 HNE HNM HOS hjk
          have AP := Lib.hid (at_p AT2.out)
          by_cases hb0 : ∀ y ∈ l.take j, y.p.ok
          · have eb : (!allOk (l.take j)) = false := by rw [allOk_iff.2 hb0]; rfl
            rw [eb]
            have e9 : (!allOk (l.take (j + 1))) = (errIf s.p.ok != 0) := by
              by_cases hp : s.p.ok
              · rw [errIf_pos hp, allOk_iff.2 (HALL.out.2 ⟨hb0, hp⟩)]; rfl
              · rw [errIf_neg hp, allOk_no (fun h => hp (HALL.out.1 h).2)]; rfl
            have E9 := Lib.hid e9
            clear e9 eb hb0 HALL z2 z3
            iterate 4 go_step
            iterate 3 (with_reducible refine wpL_val (v := ?_) ?_ ?_ ?_; rotate_left; (· kernel_rfl); (· go_simp; try with_reducible rfl); conv => arg 5; simp only [Act.put, List.setIfInBounds_toArray, List.set_cons_zero, List.set_cons_succ])
            refine wpList_nil ?_
            iterate 9 go_step
            iterate 6 (with_reducible refine wpL_val (v := ?_) ?_ ?_ ?_; rotate_left; (· kernel_rfl); (· go_simp; try with_reducible rfl); conv => arg 5; simp only [Act.put, List.setIfInBounds_toArray, List.set_cons_zero, List.set_cons_succ])
            refine wpL_at (l := [.int .i64 s.p.x, .int .i64 s.p.y, .int .i64 s.p.z]) (by rfl) (by rfl) AP.out Try.underlying30 (by rfl) (by kernel_rfl) (by kernel_rfl) ?_
            conv => arg 5; simp only [Act.put, List.setIfInBounds_toArray, List.set_cons_zero, List.set_cons_succ]
            with_reducible refine wpL_call (ca := ?_) (args := ?_) ?_ ?_ cf29 ?_ ?_
            rotate_left 2
            · kernel_rfl
            · rfl
            · simp [Act.eval] <;> rfl
            refine (C6.out _).mono ?_
            rintro e w5 ⟨rfl, hS⟩
            refine ⟨_, rfl, ?_⟩
            conv => arg 5; simp only [Act.put, List.setIfInBounds_toArray, List.set_cons_zero, List.set_cons_succ]
            have hW := hW.trans (hS.mono hW.size)
            iterate 3 (with_reducible refine wpL_val (v := ?_) ?_ ?_ ?_; rotate_left; (· kernel_rfl); (· go_simp; try with_reducible rfl); conv => arg 5; simp only [Act.put, List.setIfInBounds_toArray, List.set_cons_zero, List.set_cons_succ])
            refine wpList_nil ?_
            clear hS AT2 AP C6 HTK HSL HS HB
            go_wp2
            exact ⟨⟨j + 1, by omega, by simp, by rw [E9.out], HN2.out, hW⟩, by simp [intOf]; omega⟩
          · have eb : (!allOk (l.take j)) = true := by rw [allOk_no hb0]; rfl
            rw [eb]
            have e9 : (!allOk (l.take (j + 1))) = true := by
              rw [allOk_no (fun h => hb0 (HALL.out.1 h).1)]; rfl
            have E9 := Lib.hid e9
            clear e9 eb hb0 HALL z2 z3 AP C6 AT2 HTK HSL HS HB
            go_wp2
            exact ⟨⟨j + 1, by omega, by simp, by rw [E9.out], HN2.out, hW⟩, by simp [intOf]; omega⟩
    · have hkn : k = n := by omega
      subst hkn
      have t1 : decide ((k : Int) < (k : Int)) = false := by simp
      have hr := HR.out
      have hnm := HNM.out
      rw [List.take_of_length_le (by omega)] at hnm ⊢
      rw [if_pos hnm] at hr
      by_cases ha : ∀ s ∈ l, s.p.ok
      · rw [if_pos ha] at hr
        rw [show (!allOk l) = false from by rw [allOk_iff.2 ha]; rfl]
        clear HR HB HNM ha
        subst hr
        go_wp2
        go_ret
        exact ⟨rfl, hW⟩
      · rw [if_neg ha] at hr
        rw [show (!allOk l) = true from by rw [allOk_no ha]; rfl]
        clear HR HB HNM ha
        subst hr
        go_wp2
        go_ret
        exact ⟨rfl, hW⟩
theorem checkRC {A : Option Addr} {n : Nat} (cap : Nat) {l : List Spo} (w : World) (h : SlS w A n l) : RetB Try.prog 11 #[.slice A n cap] w (.int .i64 (checkS l)) := by
  by_cases hn : n ≤ 256
  · exact checkFew w h hn
  · rw [show checkS l = 3 by unfold checkS; rw [if_pos (show 256 < l.length by have := h.1; omega)]]
    exact checkBig w (by omega)
end PRe
end Go.Proofs.Ytbbiefgmlklafaa
namespace Go.Proofs.Ytbbiefgmlklafaa
set_option linter.unusedVariables false
set_option linter.unusedSimpArgs false
open Go.RowKit Go.NP
namespace RPa
open PGr PCk PCl PPl PSo RPl
theorem cf25 (args : Array Value) (w1 : World) : (callFunc 25 args).run Try.prog w1 = .ok (.enter 25 args) w1 := enters Try.func25 (by kernel_rfl) (by kernel_rfl) args w1
theorem cf27 (args : Array Value) (w1 : World) : (callFunc 27 args).run Try.prog w1 = .ok (.enter 27 args) w1 := enters Try.func27 (by kernel_rfl) (by kernel_rfl) args w1
theorem cf28 (args : Array Value) (w1 : World) : (callFunc 28 args).run Try.prog w1 = .ok (.enter 28 args) w1 := enters Try.func28 (by kernel_rfl) (by kernel_rfl) args w1
theorem cf26 (args : Array Value) (w1 : World) : (callFunc 26 args).run Try.prog w1 = .ok (.enter 26 args) w1 := enters Try.func26 (by kernel_rfl) (by kernel_rfl) args w1
def RetQ (args : Array Value) (w : World) (l : List Spo) (n : Int) : Prop := Calls Try.prog 8 args w fun e w' => ∃ v, e = .returned (.tuple #[v, .int .i64 n]) ∧ OwnS w' w.heap.size v l ∧ Below w.heap.size w w'
set_option maxRecDepth 100000 in
set_option maxHeartbeats 2000000 in
theorem rE {A : Option Addr} {n cap : Nat} {l : List Spo} (w : World) (h : SlS w A n l) (c : Int) (hcc : checkS l = c) (hc : ¬ c = 0) : RetQ #[.slice A n cap] w [] c := by
  have H := Lib.hid h; have HC := Lib.hid hcc
  have e0 : (c != 0) = true := by simpa using hc
  clear h hc hcc
  unfold RetQ
  go_enter Try.func8, Try.ntmps8
  go_wp2_with fail
  refine ((PRe.checkRC cap w H.out).eq (v' := .int .i64 c) (by rw [HC.out])).mono ?_
  rintro e w1 ⟨rfl, hS⟩
  go_wp2
  go_ret2
  exact ⟨.slice none 0 0, rfl, OwnS.nil _ _, hS⟩
set_option maxRecDepth 100000 in
set_option maxHeartbeats 2000000 in
theorem rF {A : Option Addr} {n cap : Nat} {l : List Spo} (w : World) (h : SlC w A n cap l) (hc : checkS l = 0) (hn : n ≤ 4) : RetQ #[.slice A n cap] w l 0 := by
  have H := Lib.hid h; have HC := Lib.hid hc
  have t4 : decide ((n : Int) ≤ 4) = true := decide_eq_true (by omega)
  clear h hc
  unfold RetQ
  go_enter Try.func8, Try.ntmps8
  go_wp2_with fail
  refine ((PRe.checkRC cap w H.out.1).eq (v' := .int .i64 0) (by rw [HC.out])).mono ?_
  rintro e w1 ⟨rfl, hS⟩
  have hN := (Below.refl w1.heap.size w1).alloc (Nat.le_refl _) (.cells (spvs []).toArray 32)
  have HS := Lib.hid (show SlC (w1.alloc (.cells (spvs []).toArray 32)) A n cap l from ⟨(H.out.1.step hS).step hN, H.out.2⟩)
  have hO := PSq.own_new w1 [] (by decide)
  go_wp2_with (at_builtin; refine wpL_all rfl (.tmp 24) (.tmp 25) (by rfl) (by rfl) hO (by rfl) HS.out (by decide) (by omega) (by simp) ?_; intro v8 w8 hO8 hB8)
  have hB8 := hB8 _ hN
  go_ret2
  exact ⟨v8, rfl, hO8.mono hS.size, hS.trans (hB8.mono hS.size)⟩
theorem far_mid {a b : Pt} (ha : a.ok) (hb : b.ok) : mid (GDot.far a b) := by
  have h := far_half ha hb
  exact PRa.i63_mid (by unfold WidB.half at h; unfold i63; omega)
theorem area_mid {a b c : Spo} (ha : a.p.ok) (hb : b.p.ok) (hc : c.p.ok) : mid (GAr.area a.p b.p c.p) := by
  have hu := PSp.psub_sP hb ha; have hv := PSp.psub_sP hc ha
  have q1 := GAr.sq_le (GAr.cx61 hu hv); have q2 := GAr.sq_le (GAr.cy61 hu hv); have q3 := GAr.sq_le (GAr.cz61 hu hv)
  have e : (2 : Int) ^ 124 = 21267647932558653966460912964485513216 := by decide
  have e2 := p2_mono (i := 124) (j := 250) (by omega)
  unfold mid GAr.area
  omega
theorem mid_least {x y : Int} (hx : mid x) (hy : mid y) : mid (least x y) := by unfold least; split <;> assumption
theorem least_mid {x y : Int} (hx : mid x) (hy : mid y) : mid (if x < y then x else y) := by split <;> assumption
set_option maxRecDepth 100000 in
set_option maxHeartbeats 8000000 in
theorem rG {b off n cap : Nat} {l : List Spo} (w : World) (hb : b < w.heap.size) (hs : SAt w b off l) (hn : l.length = n) (hc : checkS l = 0) (h4 : 4 < n) : RetQ #[.slice (some ⟨b, off, none⟩) n cap] w ((places l).map fun i => nth l i.toNat) 0 := by
  obtain ⟨h256, _, hok⟩ := checkS_ok hc
  have HOK := Lib.hid hok; have HC := Lib.hid hc
  have hne : l ≠ [] := fun e => by subst e; simp at hn; omega
  have hln := hn
  have hl0 : 0 < l.length := by omega
  have SL0 := Lib.hid hs
  have ok0 := hok _ (nth_mem hl0)
  obtain ⟨r, hr⟩ : ∃ r, ((places l).map fun i => nth l i.toNat) = r := ⟨_, rfl⟩
  have HR := Lib.hid ((sel_all hne).trans hr)
  rw [hr]
  have t4 : decide ((n : Int) ≤ 4) = false := decide_eq_false (by omega)
  have hal := at_lt hne
  have hn0 : 0 < n := by omega
  clear hr hok hc hs hn
  unfold RetQ
  go_enter Try.func8, Try.ntmps8
  go_wp2_with fail
  refine ((PRe.checkRC cap w (show SlS w (some ⟨b, off, none⟩) n l from ⟨hln, fun _ => ⟨b, off, rfl, hb, SL0.out⟩⟩)).eq (v' := .int .i64 0) (by rw [HC.out])).mono ?_
  rintro e w0 ⟨rfl, hB⟩
  have SL := SL0
  go_wp2_with fail

  go_loopw [5, 8] (fun v i wr => ∃ j : Nat, i = .int .i64 j ∧ j ≤ n ∧ OwnW wr w.heap.size v ((l.take j).map (fA l)) ∧ Below w.heap.size w wr) (fun _ i _ => n - (intOf i).toNat)
  case atStart => exact ⟨0, rfl, Nat.zero_le _, OwnW.nil _ _, hB⟩
  case round =>
    clear hB
    obtain ⟨j, rfl, hj, hO, hB⟩ := hrel
    have hsz := hB.size
    have hbz : b < wr.heap.size := by omega
    by_cases hlt : j < n
    · have hlj : j < l.length := by omega
      have t1 : decide ((j : Int) < (n : Int)) = true := by simpa using hlt
      have HTK := Lib.hid (take_snoc (nth_get hlj))
      have HJ := Lib.hid (PRe.at_p (SL.out.step hb hB j _ (nth_get hlj)))
      have H0 := Lib.hid (show At' wr b (off + 2) [.int .i64 (nth l 0).p.x, .int .i64 (nth l 0).p.y, .int .i64 (nth l 0).p.z] from by have := PRe.at_p (SL.out.step hb hB 0 _ (nth_get hl0)); rwa [Nat.zero_mul, Nat.add_zero] at this)
      have okj := HOK.out _ (nth_mem hlj)
      have O := Lib.hid (fun w => (show RetB Try.prog 25 #[.agg #[.int .i64 (nth l j).p.x, .int .i64 (nth l j).p.y, .int .i64 (nth l j).p.z], .agg #[.int .i64 (nth l 0).p.x, .int .i64 (nth l 0).p.y, .int .i64 (nth l 0).p.z]] w (.agg #[.int .u64 (w8 (fA l (nth l j))).a, .int .u64 (w8 (fA l (nth l j))).b, .int .u64 (w8 (fA l (nth l j))).c, .int .u64 (w8 (fA l (nth l j))).d, .int .u64 (w8 (fA l (nth l j))).e, .int .u64 (w8 (fA l (nth l j))).f, .int .u64 (w8 (fA l (nth l j))).g, .int .u64 (w8 (fA l (nth l j))).h]) from PRb.farR okj ok0 w))
      have hlen : ((l.take j).map (fA l)).length ≤ 100000 := by rw [List.length_map, List.length_take]; omega
      clear okj
      iterate 4 go_step
      iterate 4 (with_reducible refine wpL_val (v := ?_) ?_ ?_ ?_; rotate_left; (· kernel_rfl); (· go_simp; try with_reducible rfl); conv => arg 5; simp only [Act.put, List.setIfInBounds_toArray, List.set_cons_zero, List.set_cons_succ])
      refine wpList_nil ?_
      iterate 8 go_step
      refine wp_region_ph [(12, .free [11])] (by kernel_rfl) (by kernel_rfl) ?_
      refine Ph.gend [(11, newR wr.heap.size 1 [.int .u64 (w8 (fA l (nth l j))).a, .int .u64 (w8 (fA l (nth l j))).b, .int .u64 (w8 (fA l (nth l j))).c, .int .u64 (w8 (fA l (nth l j))).d, .int .u64 (w8 (fA l (nth l j))).e, .int .u64 (w8 (fA l (nth l j))).f, .int .u64 (w8 (fA l (nth l j))).g, .int .u64 (w8 (fA l (nth l j))).h] 37)] (by rfl) ?_
      simp only [List.drop_succ_cons, List.drop_zero, List.take_succ_cons, List.take_zero, Nat.reduceSub, Nat.sub_zero]
      iterate 5 (refine SeqO.valG (v := ?_) (by rfl) (by rfl) (fun w1 hS => ?_) ?_; rotate_left; (· obtain ⟨hc, hcf⟩ := bcell hS; go_simp; try with_reducible rfl); simp only [Act.put, List.setIfInBounds_toArray, List.set_cons_zero, List.set_cons_succ])
      refine SeqO.atG (l := [.int .i64 (nth l j).p.x, .int .i64 (nth l j).p.y, .int .i64 (nth l j).p.z]) (by rfl) (by rfl) hbz HJ.out Try.underlying30 (by rfl) (by kernel_rfl) (by rfl) (by rfl) ?_
      simp only [Act.put, List.setIfInBounds_toArray, List.set_cons_zero, List.set_cons_succ]
      iterate 3 (refine SeqO.valG (v := ?_) (by rfl) (by rfl) (fun w1 hS => ?_) ?_; rotate_left; (· obtain ⟨hc, hcf⟩ := bcell hS; go_simp; try with_reducible rfl); simp only [Act.put, List.setIfInBounds_toArray, List.set_cons_zero, List.set_cons_succ])
      refine SeqO.atG (l := [.int .i64 (nth l 0).p.x, .int .i64 (nth l 0).p.y, .int .i64 (nth l 0).p.z]) (by rfl) (by rfl) hbz H0.out Try.underlying30 (by rfl) (by kernel_rfl) (by rfl) (by rfl) ?_
      simp only [Act.put, List.setIfInBounds_toArray, List.set_cons_zero, List.set_cons_succ]
      refine SeqO.callvG (by rfl) (by rfl) (by rfl) cf25 (by simp [Act.eval]) (fun w1 hS => O.out w1) ?_
      simp only [Act.put, List.setIfInBounds_toArray, List.set_cons_zero, List.set_cons_succ]
      refine SeqO.newG (l := [.int .u64 (w8 (fA l (nth l j))).a, .int .u64 (w8 (fA l (nth l j))).b, .int .u64 (w8 (fA l (nth l j))).c, .int .u64 (w8 (fA l (nth l j))).d, .int .u64 (w8 (fA l (nth l j))).e, .int .u64 (w8 (fA l (nth l j))).f, .int .u64 (w8 (fA l (nth l j))).g, .int .u64 (w8 (fA l (nth l j))).h]) (T := 37) (n := 1) (B := wr.heap.size) (by rfl) (by simp) (by rfl) (fun w => by go_simp) (Nat.le_refl _) ?_
      refine SeqO.nilG (by rfl) fun u w1 hS hK => ?_
      obtain ⟨g1, hg1, hge1, hB1⟩ := hK _ (List.mem_cons_self ..)
      clear hK
      simp only [List.nil_append, List.cons_append, List.foldl_cons, List.foldl_nil, hg1]
      clear hg1
      have hB1 : Box w1 g1 [.int .u64 (w8 (fA l (nth l j))).a, .int .u64 (w8 (fA l (nth l j))).b, .int .u64 (w8 (fA l (nth l j))).c, .int .u64 (w8 (fA l (nth l j))).d, .int .u64 (w8 (fA l (nth l j))).e, .int .u64 (w8 (fA l (nth l j))).f, .int .u64 (w8 (fA l (nth l j))).g, .int .u64 (w8 (fA l (nth l j))).h] 37 := hB1
      have hO1 := hO.step hS
      have hBx := hB.trans (hS.mono hB.size)
      refine Ph.last ?_
      simp only [List.drop_succ_cons, List.drop_zero, List.take_succ_cons, List.take_zero, Nat.reduceSub, Nat.sub_zero]
      refine wpL_appW (t := fA l (nth l j)) rfl (.tmp 33) (.tmp 44) (by rfl) (by rfl) hO1 (by rfl) (hB1.part 0 8) hlen hBx.size ?_
      intro v8 w8 hO8 hB8
      have hB8 := hB8 _ hBx
      conv => arg 5; simp only [Act.put, List.setIfInBounds_toArray, List.set_cons_zero, List.set_cons_succ]
      iterate 1 (with_reducible refine wpL_val (v := ?_) ?_ ?_ ?_; rotate_left; (· kernel_rfl); (· go_simp; try with_reducible rfl); conv => arg 5; simp only [Act.put, List.setIfInBounds_toArray, List.set_cons_zero, List.set_cons_succ])
      refine wpList_nil ?_
      rw [show (l.take j).map (fA l) ++ [fA l (nth l j)] = (l.take (j + 1)).map (fA l) by rw [HTK.out, List.map_append]; rfl] at hO8
      clear HTK HJ H0 hO hB1 hO1 hBx hB hS hge1
      go_wp2
      exact ⟨⟨j + 1, by simp, by omega, hO8, hB8⟩, by simp [intOf]; omega⟩
    · have hjn : n = j := by omega
      subst hjn
      have t1 : decide ((n : Int) < (n : Int)) = false := by simp
      rw [List.take_of_length_le (by omega)] at hO
      obtain ⟨A1, c1, rfl, h1⟩ := hO.sl
      rw [List.length_map, hln] at h1 ⊢
      have HF := Lib.hid (PRd.firstC (fA l) (cap := c1) wr h1 (fun s hs => far_mid (HOK.out s hs) ok0) (by omega))
      clear hO h1 hlt hj
      go_wp2_with fail
      refine HF.out.mono ?_
      rintro e wf ⟨rfl, hS⟩
      have hB := hB.trans (hS.mono hB.size)
      clear hS HF
      have hfa1 : ((best (fA l) l).at_ : Nat) < n := by have := hal.1; unfold at1 at this; omega
      generalize ha1 : (best (fA l) l).at_ = a1 at *
      go_wp2_with fail

      go_loopw [6, 10] (fun v i wr => ∃ j : Nat, i = .int .i64 j ∧ j ≤ n ∧ OwnW wr w.heap.size v ((l.take j).map (fB l)) ∧ Below w.heap.size w wr) (fun _ i _ => n - (intOf i).toNat)
      case atStart => exact ⟨0, rfl, Nat.zero_le _, OwnW.nil _ _, hB⟩
      case round =>
        clear hB
        obtain ⟨j, rfl, hj, hO, hB⟩ := hrel
        have hsz := hB.size
        have hbz : b < wr.heap.size := by omega
        by_cases hlt : j < n
        · have hlj : j < l.length := by omega
          have t1 : decide ((j : Int) < (n : Int)) = true := by simpa using hlt
          have HTK := Lib.hid (take_snoc (nth_get hlj))
          have HJ := Lib.hid (PRe.at_p (SL.out.step hb hB j _ (nth_get hlj)))
          have H0 := Lib.hid (show At' wr b (off + 2) [.int .i64 (nth l 0).p.x, .int .i64 (nth l 0).p.y, .int .i64 (nth l 0).p.z] from by have := PRe.at_p (SL.out.step hb hB 0 _ (nth_get hl0)); rwa [Nat.zero_mul, Nat.add_zero] at this)
          have okj := HOK.out _ (nth_mem hlj)
          have HP1 := Lib.hid (PRe.at_p (SL.out.step hb hB a1 _ (nth_get (by omega))))
          have ok1 := HOK.out _ (nth_mem (l := l) (k := a1) (by omega))
          have O := Lib.hid (fun w => (show RetB Try.prog 27 #[.agg #[.int .i64 (nth l 0).p.x, .int .i64 (nth l 0).p.y, .int .i64 (nth l 0).p.z], .agg #[.int .i64 (nth l a1).p.x, .int .i64 (nth l a1).p.y, .int .i64 (nth l a1).p.z], .agg #[.int .i64 (nth l j).p.x, .int .i64 (nth l j).p.y, .int .i64 (nth l j).p.z]] w (.agg #[.int .u64 (w8 (fB l (nth l j))).a, .int .u64 (w8 (fB l (nth l j))).b, .int .u64 (w8 (fB l (nth l j))).c, .int .u64 (w8 (fB l (nth l j))).d, .int .u64 (w8 (fB l (nth l j))).e, .int .u64 (w8 (fB l (nth l j))).f, .int .u64 (w8 (fB l (nth l j))).g, .int .u64 (w8 (fB l (nth l j))).h]) from by unfold fB at1; rw [ha1]; exact PRb.areaR ok0 ok1 okj w))
          have hlen : ((l.take j).map (fB l)).length ≤ 100000 := by rw [List.length_map, List.length_take]; omega
          clear okj
          iterate 4 go_step
          iterate 4 (with_reducible refine wpL_val (v := ?_) ?_ ?_ ?_; rotate_left; (· kernel_rfl); (· go_simp; try with_reducible rfl); conv => arg 5; simp only [Act.put, List.setIfInBounds_toArray, List.set_cons_zero, List.set_cons_succ])
          refine wpList_nil ?_
          iterate 8 go_step
          refine wp_region_ph [(17, .free [16])] (by kernel_rfl) (by kernel_rfl) ?_
          refine Ph.gend [(16, newR wr.heap.size 1 [.int .u64 (w8 (fB l (nth l j))).a, .int .u64 (w8 (fB l (nth l j))).b, .int .u64 (w8 (fB l (nth l j))).c, .int .u64 (w8 (fB l (nth l j))).d, .int .u64 (w8 (fB l (nth l j))).e, .int .u64 (w8 (fB l (nth l j))).f, .int .u64 (w8 (fB l (nth l j))).g, .int .u64 (w8 (fB l (nth l j))).h] 37)] (by rfl) ?_
          simp only [List.drop_succ_cons, List.drop_zero, List.take_succ_cons, List.take_zero, Nat.reduceSub, Nat.sub_zero]
          iterate 4 (refine SeqO.valG (v := ?_) (by rfl) (by rfl) (fun w1 hS => ?_) ?_; rotate_left; (· obtain ⟨hc, hcf⟩ := bcell hS; go_simp; try with_reducible rfl); simp only [Act.put, List.setIfInBounds_toArray, List.set_cons_zero, List.set_cons_succ])
          refine SeqO.atG (l := [.int .i64 (nth l 0).p.x, .int .i64 (nth l 0).p.y, .int .i64 (nth l 0).p.z]) (by rfl) (by rfl) hbz H0.out Try.underlying30 (by rfl) (by kernel_rfl) (by rfl) (by rfl) ?_
          simp only [Act.put, List.setIfInBounds_toArray, List.set_cons_zero, List.set_cons_succ]
          iterate 4 (refine SeqO.valG (v := ?_) (by rfl) (by rfl) (fun w1 hS => ?_) ?_; rotate_left; (· obtain ⟨hc, hcf⟩ := bcell hS; go_simp; try with_reducible rfl); simp only [Act.put, List.setIfInBounds_toArray, List.set_cons_zero, List.set_cons_succ])
          refine SeqO.atG (l := [.int .i64 (nth l a1).p.x, .int .i64 (nth l a1).p.y, .int .i64 (nth l a1).p.z]) (by rfl) (by rfl) hbz HP1.out Try.underlying30 (by rfl) (by kernel_rfl) (by rfl) (by rfl) ?_
          simp only [Act.put, List.setIfInBounds_toArray, List.set_cons_zero, List.set_cons_succ]
          iterate 4 (refine SeqO.valG (v := ?_) (by rfl) (by rfl) (fun w1 hS => ?_) ?_; rotate_left; (· obtain ⟨hc, hcf⟩ := bcell hS; go_simp; try with_reducible rfl); simp only [Act.put, List.setIfInBounds_toArray, List.set_cons_zero, List.set_cons_succ])
          refine SeqO.atG (l := [.int .i64 (nth l j).p.x, .int .i64 (nth l j).p.y, .int .i64 (nth l j).p.z]) (by rfl) (by rfl) hbz HJ.out Try.underlying30 (by rfl) (by kernel_rfl) (by rfl) (by rfl) ?_
          simp only [Act.put, List.setIfInBounds_toArray, List.set_cons_zero, List.set_cons_succ]
          refine SeqO.callvG (by rfl) (by rfl) (by rfl) cf27 (by simp [Act.eval]) (fun w1 hS => O.out w1) ?_
          simp only [Act.put, List.setIfInBounds_toArray, List.set_cons_zero, List.set_cons_succ]
          refine SeqO.newG (l := [.int .u64 (w8 (fB l (nth l j))).a, .int .u64 (w8 (fB l (nth l j))).b, .int .u64 (w8 (fB l (nth l j))).c, .int .u64 (w8 (fB l (nth l j))).d, .int .u64 (w8 (fB l (nth l j))).e, .int .u64 (w8 (fB l (nth l j))).f, .int .u64 (w8 (fB l (nth l j))).g, .int .u64 (w8 (fB l (nth l j))).h]) (T := 37) (n := 1) (B := wr.heap.size) (by rfl) (by simp) (by rfl) (fun w => by go_simp) (Nat.le_refl _) ?_
          refine SeqO.nilG (by rfl) fun u w1 hS hK => ?_
          obtain ⟨g1, hg1, hge1, hB1⟩ := hK _ (List.mem_cons_self ..)
          clear hK
          simp only [List.nil_append, List.cons_append, List.foldl_cons, List.foldl_nil, hg1]
          clear hg1
          have hB1 : Box w1 g1 [.int .u64 (w8 (fB l (nth l j))).a, .int .u64 (w8 (fB l (nth l j))).b, .int .u64 (w8 (fB l (nth l j))).c, .int .u64 (w8 (fB l (nth l j))).d, .int .u64 (w8 (fB l (nth l j))).e, .int .u64 (w8 (fB l (nth l j))).f, .int .u64 (w8 (fB l (nth l j))).g, .int .u64 (w8 (fB l (nth l j))).h] 37 := hB1
          have hO1 := hO.step hS
          have hBx := hB.trans (hS.mono hB.size)
          refine Ph.last ?_
          simp only [List.drop_succ_cons, List.drop_zero, List.take_succ_cons, List.take_zero, Nat.reduceSub, Nat.sub_zero]
          refine wpL_appW (t := fB l (nth l j)) rfl (.tmp 54) (.tmp 70) (by rfl) (by rfl) hO1 (by rfl) (hB1.part 0 8) hlen hBx.size ?_
          intro v8 w8 hO8 hB8
          have hB8 := hB8 _ hBx
          conv => arg 5; simp only [Act.put, List.setIfInBounds_toArray, List.set_cons_zero, List.set_cons_succ]
          iterate 1 (with_reducible refine wpL_val (v := ?_) ?_ ?_ ?_; rotate_left; (· kernel_rfl); (· go_simp; try with_reducible rfl); conv => arg 5; simp only [Act.put, List.setIfInBounds_toArray, List.set_cons_zero, List.set_cons_succ])
          refine wpList_nil ?_
          rw [show (l.take j).map (fB l) ++ [fB l (nth l j)] = (l.take (j + 1)).map (fB l) by rw [HTK.out, List.map_append]; rfl] at hO8
          clear HTK HJ H0 hO hB1 hO1 hBx hB hS hge1
          go_wp2
          exact ⟨⟨j + 1, by simp, by omega, hO8, hB8⟩, by simp [intOf]; omega⟩
        · have hjn : n = j := by omega
          subst hjn
          have t1 : decide ((n : Int) < (n : Int)) = false := by simp
          rw [List.take_of_length_le (by omega)] at hO
          obtain ⟨A1, c1, rfl, h1⟩ := hO.sl
          rw [List.length_map, hln] at h1 ⊢
          have HF := Lib.hid (PRd.firstC (fB l) (cap := c1) wr h1 (fun s hs => area_mid ok0 (HOK.out _ (nth_mem hal.1)) (HOK.out s hs)) (by omega))
          clear hO h1 hlt hj
          go_wp2_with fail
          refine HF.out.mono ?_
          rintro e wf ⟨rfl, hS⟩
          have hB := hB.trans (hS.mono hB.size)
          clear hS HF
          have hfa2 : ((best (fB l) l).at_ : Nat) < n := by have := hal.2.1; unfold at2 at this; omega
          generalize ha2 : (best (fB l) l).at_ = a2 at *
          go_wp2_with fail

          go_loopw [7, 12] (fun v i wr => ∃ j : Nat, i = .int .i64 j ∧ j ≤ n ∧ OwnW wr w.heap.size v ((l.take j).map (fC l)) ∧ Below w.heap.size w wr) (fun _ i _ => n - (intOf i).toNat)
          case atStart => exact ⟨0, rfl, Nat.zero_le _, OwnW.nil _ _, hB⟩
          case round =>
            clear hB
            obtain ⟨j, rfl, hj, hO, hB⟩ := hrel
            have hsz := hB.size
            have hbz : b < wr.heap.size := by omega
            by_cases hlt : j < n
            · have hlj : j < l.length := by omega
              have t1 : decide ((j : Int) < (n : Int)) = true := by simpa using hlt
              have HTK := Lib.hid (take_snoc (nth_get hlj))
              have HJ := Lib.hid (PRe.at_p (SL.out.step hb hB j _ (nth_get hlj)))
              have H0 := Lib.hid (show At' wr b (off + 2) [.int .i64 (nth l 0).p.x, .int .i64 (nth l 0).p.y, .int .i64 (nth l 0).p.z] from by have := PRe.at_p (SL.out.step hb hB 0 _ (nth_get hl0)); rwa [Nat.zero_mul, Nat.add_zero] at this)
              have okj := HOK.out _ (nth_mem hlj)
              have HP1 := Lib.hid (PRe.at_p (SL.out.step hb hB a1 _ (nth_get (by omega))))
              have ok1 := HOK.out _ (nth_mem (l := l) (k := a1) (by omega))
              have HP2 := Lib.hid (PRe.at_p (SL.out.step hb hB a2 _ (nth_get (by omega))))
              have ok2 := HOK.out _ (nth_mem (l := l) (k := a2) (by omega))
              have O1 := Lib.hid (fun w => PRb.farR okj ok0 w)
              have O2 := Lib.hid (fun w => PRb.farR okj ok1 w)
              have O3 := Lib.hid (fun w => PRb.farR okj ok2 w)
              have O4 := Lib.hid (fun w => PRc.lesserC (far_mid okj ok1) (far_mid okj ok2) w)
              have O5 := Lib.hid (fun w => (show RetB Try.prog 28 #[.agg #[.int .u64 (w8 (GDot.far (nth l j).p (nth l 0).p)).a, .int .u64 (w8 (GDot.far (nth l j).p (nth l 0).p)).b, .int .u64 (w8 (GDot.far (nth l j).p (nth l 0).p)).c, .int .u64 (w8 (GDot.far (nth l j).p (nth l 0).p)).d, .int .u64 (w8 (GDot.far (nth l j).p (nth l 0).p)).e, .int .u64 (w8 (GDot.far (nth l j).p (nth l 0).p)).f, .int .u64 (w8 (GDot.far (nth l j).p (nth l 0).p)).g, .int .u64 (w8 (GDot.far (nth l j).p (nth l 0).p)).h], .agg #[.int .u64 (w8 (if GDot.far (nth l j).p (nth l a1).p < GDot.far (nth l j).p (nth l a2).p then GDot.far (nth l j).p (nth l a1).p else GDot.far (nth l j).p (nth l a2).p)).a, .int .u64 (w8 (if GDot.far (nth l j).p (nth l a1).p < GDot.far (nth l j).p (nth l a2).p then GDot.far (nth l j).p (nth l a1).p else GDot.far (nth l j).p (nth l a2).p)).b, .int .u64 (w8 (if GDot.far (nth l j).p (nth l a1).p < GDot.far (nth l j).p (nth l a2).p then GDot.far (nth l j).p (nth l a1).p else GDot.far (nth l j).p (nth l a2).p)).c, .int .u64 (w8 (if GDot.far (nth l j).p (nth l a1).p < GDot.far (nth l j).p (nth l a2).p then GDot.far (nth l j).p (nth l a1).p else GDot.far (nth l j).p (nth l a2).p)).d, .int .u64 (w8 (if GDot.far (nth l j).p (nth l a1).p < GDot.far (nth l j).p (nth l a2).p then GDot.far (nth l j).p (nth l a1).p else GDot.far (nth l j).p (nth l a2).p)).e, .int .u64 (w8 (if GDot.far (nth l j).p (nth l a1).p < GDot.far (nth l j).p (nth l a2).p then GDot.far (nth l j).p (nth l a1).p else GDot.far (nth l j).p (nth l a2).p)).f, .int .u64 (w8 (if GDot.far (nth l j).p (nth l a1).p < GDot.far (nth l j).p (nth l a2).p then GDot.far (nth l j).p (nth l a1).p else GDot.far (nth l j).p (nth l a2).p)).g, .int .u64 (w8 (if GDot.far (nth l j).p (nth l a1).p < GDot.far (nth l j).p (nth l a2).p then GDot.far (nth l j).p (nth l a1).p else GDot.far (nth l j).p (nth l a2).p)).h]] w (.agg #[.int .u64 (w8 (fC l (nth l j))).a, .int .u64 (w8 (fC l (nth l j))).b, .int .u64 (w8 (fC l (nth l j))).c, .int .u64 (w8 (fC l (nth l j))).d, .int .u64 (w8 (fC l (nth l j))).e, .int .u64 (w8 (fC l (nth l j))).f, .int .u64 (w8 (fC l (nth l j))).g, .int .u64 (w8 (fC l (nth l j))).h]) from by unfold fC at1 at2; rw [ha1, ha2, ← lesser_is]; exact PRc.lesserC (far_mid okj ok0) (least_mid (far_mid okj ok1) (far_mid okj ok2)) w))
              have hlen : ((l.take j).map (fC l)).length ≤ 100000 := by rw [List.length_map, List.length_take]; omega
              clear okj
              iterate 4 go_step
              iterate 4 (with_reducible refine wpL_val (v := ?_) ?_ ?_ ?_; rotate_left; (· kernel_rfl); (· go_simp; try with_reducible rfl); conv => arg 5; simp only [Act.put, List.setIfInBounds_toArray, List.set_cons_zero, List.set_cons_succ])
              refine wpList_nil ?_
              iterate 8 go_step
              refine wp_region_ph [(36, .free [35])] (by kernel_rfl) (by kernel_rfl) ?_
              refine Ph.gend [(35, newR wr.heap.size 1 [.int .u64 (w8 (fC l (nth l j))).a, .int .u64 (w8 (fC l (nth l j))).b, .int .u64 (w8 (fC l (nth l j))).c, .int .u64 (w8 (fC l (nth l j))).d, .int .u64 (w8 (fC l (nth l j))).e, .int .u64 (w8 (fC l (nth l j))).f, .int .u64 (w8 (fC l (nth l j))).g, .int .u64 (w8 (fC l (nth l j))).h] 37)] (by rfl) ?_
              simp only [List.drop_succ_cons, List.drop_zero, List.take_succ_cons, List.take_zero, Nat.reduceSub, Nat.sub_zero]
              iterate 5 (refine SeqO.valG (v := ?_) (by rfl) (by rfl) (fun w1 hS => ?_) ?_; rotate_left; (· obtain ⟨hc, hcf⟩ := bcell hS; go_simp; try with_reducible rfl); simp only [Act.put, List.setIfInBounds_toArray, List.set_cons_zero, List.set_cons_succ])
              refine SeqO.atG (l := [.int .i64 (nth l j).p.x, .int .i64 (nth l j).p.y, .int .i64 (nth l j).p.z]) (by rfl) (by rfl) hbz HJ.out Try.underlying30 (by rfl) (by kernel_rfl) (by rfl) (by rfl) ?_
              simp only [Act.put, List.setIfInBounds_toArray, List.set_cons_zero, List.set_cons_succ]
              iterate 3 (refine SeqO.valG (v := ?_) (by rfl) (by rfl) (fun w1 hS => ?_) ?_; rotate_left; (· obtain ⟨hc, hcf⟩ := bcell hS; go_simp; try with_reducible rfl); simp only [Act.put, List.setIfInBounds_toArray, List.set_cons_zero, List.set_cons_succ])
              refine SeqO.atG (l := [.int .i64 (nth l 0).p.x, .int .i64 (nth l 0).p.y, .int .i64 (nth l 0).p.z]) (by rfl) (by rfl) hbz H0.out Try.underlying30 (by rfl) (by kernel_rfl) (by rfl) (by rfl) ?_
              simp only [Act.put, List.setIfInBounds_toArray, List.set_cons_zero, List.set_cons_succ]
              refine SeqO.callvG (by rfl) (by rfl) (by rfl) cf25 (by simp [Act.eval]) (fun w1 hS => O1.out w1) ?_
              simp only [Act.put, List.setIfInBounds_toArray, List.set_cons_zero, List.set_cons_succ]
              iterate 4 (refine SeqO.valG (v := ?_) (by rfl) (by rfl) (fun w1 hS => ?_) ?_; rotate_left; (· obtain ⟨hc, hcf⟩ := bcell hS; go_simp; try with_reducible rfl); simp only [Act.put, List.setIfInBounds_toArray, List.set_cons_zero, List.set_cons_succ])
              refine SeqO.atG (l := [.int .i64 (nth l j).p.x, .int .i64 (nth l j).p.y, .int .i64 (nth l j).p.z]) (by rfl) (by rfl) hbz HJ.out Try.underlying30 (by rfl) (by kernel_rfl) (by rfl) (by rfl) ?_
              simp only [Act.put, List.setIfInBounds_toArray, List.set_cons_zero, List.set_cons_succ]
              iterate 4 (refine SeqO.valG (v := ?_) (by rfl) (by rfl) (fun w1 hS => ?_) ?_; rotate_left; (· obtain ⟨hc, hcf⟩ := bcell hS; go_simp; try with_reducible rfl); simp only [Act.put, List.setIfInBounds_toArray, List.set_cons_zero, List.set_cons_succ])
              refine SeqO.atG (l := [.int .i64 (nth l a1).p.x, .int .i64 (nth l a1).p.y, .int .i64 (nth l a1).p.z]) (by rfl) (by rfl) hbz HP1.out Try.underlying30 (by rfl) (by kernel_rfl) (by rfl) (by rfl) ?_
              simp only [Act.put, List.setIfInBounds_toArray, List.set_cons_zero, List.set_cons_succ]
              refine SeqO.callvG (by rfl) (by rfl) (by rfl) cf25 (by simp [Act.eval]) (fun w1 hS => O2.out w1) ?_
              simp only [Act.put, List.setIfInBounds_toArray, List.set_cons_zero, List.set_cons_succ]
              iterate 4 (refine SeqO.valG (v := ?_) (by rfl) (by rfl) (fun w1 hS => ?_) ?_; rotate_left; (· obtain ⟨hc, hcf⟩ := bcell hS; go_simp; try with_reducible rfl); simp only [Act.put, List.setIfInBounds_toArray, List.set_cons_zero, List.set_cons_succ])
              refine SeqO.atG (l := [.int .i64 (nth l j).p.x, .int .i64 (nth l j).p.y, .int .i64 (nth l j).p.z]) (by rfl) (by rfl) hbz HJ.out Try.underlying30 (by rfl) (by kernel_rfl) (by rfl) (by rfl) ?_
              simp only [Act.put, List.setIfInBounds_toArray, List.set_cons_zero, List.set_cons_succ]
              iterate 4 (refine SeqO.valG (v := ?_) (by rfl) (by rfl) (fun w1 hS => ?_) ?_; rotate_left; (· obtain ⟨hc, hcf⟩ := bcell hS; go_simp; try with_reducible rfl); simp only [Act.put, List.setIfInBounds_toArray, List.set_cons_zero, List.set_cons_succ])
              refine SeqO.atG (l := [.int .i64 (nth l a2).p.x, .int .i64 (nth l a2).p.y, .int .i64 (nth l a2).p.z]) (by rfl) (by rfl) hbz HP2.out Try.underlying30 (by rfl) (by kernel_rfl) (by rfl) (by rfl) ?_
              simp only [Act.put, List.setIfInBounds_toArray, List.set_cons_zero, List.set_cons_succ]
              refine SeqO.callvG (by rfl) (by rfl) (by rfl) cf25 (by simp [Act.eval]) (fun w1 hS => O3.out w1) ?_
              simp only [Act.put, List.setIfInBounds_toArray, List.set_cons_zero, List.set_cons_succ]
              refine SeqO.callvG (by rfl) (by rfl) (by rfl) cf28 (by simp [Act.eval]) (fun w1 hS => O4.out w1) ?_
              simp only [Act.put, List.setIfInBounds_toArray, List.set_cons_zero, List.set_cons_succ]
              refine SeqO.callvG (by rfl) (by rfl) (by rfl) cf28 (by simp [Act.eval]) (fun w1 hS => O5.out w1) ?_
              simp only [Act.put, List.setIfInBounds_toArray, List.set_cons_zero, List.set_cons_succ]
              refine SeqO.newG (l := [.int .u64 (w8 (fC l (nth l j))).a, .int .u64 (w8 (fC l (nth l j))).b, .int .u64 (w8 (fC l (nth l j))).c, .int .u64 (w8 (fC l (nth l j))).d, .int .u64 (w8 (fC l (nth l j))).e, .int .u64 (w8 (fC l (nth l j))).f, .int .u64 (w8 (fC l (nth l j))).g, .int .u64 (w8 (fC l (nth l j))).h]) (T := 37) (n := 1) (B := wr.heap.size) (by rfl) (by simp) (by rfl) (fun w => by go_simp) (Nat.le_refl _) ?_
              refine SeqO.nilG (by rfl) fun u w1 hS hK => ?_
              obtain ⟨g1, hg1, hge1, hB1⟩ := hK _ (List.mem_cons_self ..)
              clear hK
              simp only [List.nil_append, List.cons_append, List.foldl_cons, List.foldl_nil, hg1]
              clear hg1
              have hB1 : Box w1 g1 [.int .u64 (w8 (fC l (nth l j))).a, .int .u64 (w8 (fC l (nth l j))).b, .int .u64 (w8 (fC l (nth l j))).c, .int .u64 (w8 (fC l (nth l j))).d, .int .u64 (w8 (fC l (nth l j))).e, .int .u64 (w8 (fC l (nth l j))).f, .int .u64 (w8 (fC l (nth l j))).g, .int .u64 (w8 (fC l (nth l j))).h] 37 := hB1
              have hO1 := hO.step hS
              have hBx := hB.trans (hS.mono hB.size)
              refine Ph.last ?_
              simp only [List.drop_succ_cons, List.drop_zero, List.take_succ_cons, List.take_zero, Nat.reduceSub, Nat.sub_zero]
              refine wpL_appW (t := fC l (nth l j)) rfl (.tmp 80) (.tmp 115) (by rfl) (by rfl) hO1 (by rfl) (hB1.part 0 8) hlen hBx.size ?_
              intro v8 w8 hO8 hB8
              have hB8 := hB8 _ hBx
              conv => arg 5; simp only [Act.put, List.setIfInBounds_toArray, List.set_cons_zero, List.set_cons_succ]
              iterate 1 (with_reducible refine wpL_val (v := ?_) ?_ ?_ ?_; rotate_left; (· kernel_rfl); (· go_simp; try with_reducible rfl); conv => arg 5; simp only [Act.put, List.setIfInBounds_toArray, List.set_cons_zero, List.set_cons_succ])
              refine wpList_nil ?_
              rw [show (l.take j).map (fC l) ++ [fC l (nth l j)] = (l.take (j + 1)).map (fC l) by rw [HTK.out, List.map_append]; rfl] at hO8
              clear HTK HJ H0 hO hB1 hO1 hBx hB hS hge1
              go_wp2
              exact ⟨⟨j + 1, by simp, by omega, hO8, hB8⟩, by simp [intOf]; omega⟩
            · have hjn : n = j := by omega
              subst hjn
              have t1 : decide ((n : Int) < (n : Int)) = false := by simp
              rw [List.take_of_length_le (by omega)] at hO
              obtain ⟨A1, c1, rfl, h1⟩ := hO.sl
              rw [List.length_map, hln] at h1 ⊢
              have HF := Lib.hid (PRd.firstC (fC l) (cap := c1) wr h1 (fun s hs => mid_least (mid_least (far_mid (HOK.out s hs) ok0) (far_mid (HOK.out s hs) (HOK.out _ (nth_mem hal.1)))) (far_mid (HOK.out s hs) (HOK.out _ (nth_mem hal.2.1)))) (by omega))
              clear hO h1 hlt hj
              go_wp2_with fail
              refine HF.out.mono ?_
              rintro e wf ⟨rfl, hS⟩
              have hB := hB.trans (hS.mono hB.size)
              clear hS HF
              have hfa3 : ((best (fC l) l).at_ : Nat) < n := by have := hal.2.2; unfold at3 at this; omega
              generalize ha3 : (best (fC l) l).at_ = a3 at *
              go_wp2_with fail

              have HSEL := Lib.hid (show sel a1 a2 a3 l n = r from by have := HR.out; unfold at1 at2 at3 at this; rw [ha1, ha2, ha3, hln] at this; exact this)
              clear HR hal
              go_loopw [14, 15] (fun v i wr => ∃ j : Nat, i = .int .i64 j ∧ j ≤ n ∧ OwnS wr w.heap.size v (sel a1 a2 a3 l j) ∧ Below w.heap.size w wr) (fun _ i _ => n - (intOf i).toNat)
              case atStart => exact ⟨0, rfl, Nat.zero_le _, OwnS.nil _ _, hB⟩
              case round =>
                clear hB
                obtain ⟨j, rfl, hj, hO, hB⟩ := hrel
                have hsz := hB.size
                by_cases hlt : j < n
                · have hlj : j < l.length := by omega
                  have t1 : decide ((j : Int) < (n : Int)) = true := by simpa using hlt
                  have at1 := Lib.hid (SL.out.step hb hB j _ (nth_get hlj))
                  have hlen : (sel a1 a2 a3 l j).length ≤ 100000 := Nat.le_trans (sel_len _ _ _ _ _) (by omega)
                  have hN := (Below.refl wr.heap.size wr).alloc (Nat.le_refl _) (.cells [.int .i64 (nth l j).side, .int .i64 (nth l j).at_, .int .i64 (nth l j).p.x, .int .i64 (nth l j).p.y, .int .i64 (nth l j).p.z].toArray 32)
                  have hO1 := hO.step hN
                  have hB1 := hB.alloc hsz (.cells [.int .i64 (nth l j).side, .int .i64 (nth l j).at_, .int .i64 (nth l j).p.x, .int .i64 (nth l j).p.y, .int .i64 (nth l j).p.z].toArray 32)
                  have hX : Box (wr.alloc (.cells [.int .i64 (nth l j).side, .int .i64 (nth l j).at_, .int .i64 (nth l j).p.x, .int .i64 (nth l j).p.y, .int .i64 (nth l j).p.z].toArray 32)) wr.heap.size [.int .i64 (nth l j).side, .int .i64 (nth l j).at_, .int .i64 (nth l j).p.x, .int .i64 (nth l j).p.y, .int .i64 (nth l j).p.z] 32 := Box.new rfl
                  have fin : (j = 0 ∨ j = a1 ∨ j = a2 ∨ j = a3) → sel a1 a2 a3 l j ++ [nth l j] = sel a1 a2 a3 l (j + 1) := fun h => (sel_yes h).symm
                  have fno : ¬ (j = 0 ∨ j = a1 ∨ j = a2 ∨ j = a3) → sel a1 a2 a3 l j = sel a1 a2 a3 l (j + 1) := fun h => (sel_no h).symm
                  have FIN := Lib.hid fin; have FNO := Lib.hid fno
                  clear fin fno
                  by_cases c : j = 0 ∨ j = a1 ∨ j = a2 ∨ j = a3
                  · have hfin := FIN.out c
                    have key : ((j : Int) == 0) = true ∨ (((j : Int) == 0) = false ∧ ((j : Int) == (a1 : Int)) = true) ∨ (((j : Int) == 0) = false ∧ ((j : Int) == (a1 : Int)) = false ∧ ((j : Int) == (a2 : Int)) = true) ∨ (((j : Int) == 0) = false ∧ ((j : Int) == (a1 : Int)) = false ∧ ((j : Int) == (a2 : Int)) = false ∧ ((j : Int) == (a3 : Int)) = true) := by
                      simp only [beq_iff_eq, beq_eq_false_iff_ne, ne_eq]; omega
                    have HFIN := Lib.hid hfin
                    clear FIN FNO hfin c
                    have z0 := at1.out 0 _ rfl; have z1 := at1.out 1 _ rfl; have z2 := at1.out 2 _ rfl; have z3 := at1.out 3 _ rfl; have z4 := at1.out 4 _ rfl
                    simp only [Nat.add_zero] at z0
                    rcases key with k0 | ⟨k0, k1⟩ | ⟨k0, k1, k2⟩ | ⟨k0, k1, k2, k3⟩ <;> (go_wp2_with (at_builtin; refine wpL_app (t := nth l j) rfl (.tmp 142) (.tmp 147) (by rfl) (by rfl) hO1 (by rfl) (hX.part 0 5) hlen hB1.size ?_; intro v8 w8 hO8 hB8))
                    all_goals
                      have hB8 := hB8 _ hB1
                      rw [HFIN.out] at hO8
                      exact ⟨⟨j + 1, by simp, by omega, hO8, hB8⟩, by simp [intOf]; omega⟩
                  · have hno := FNO.out c
                    have k0 : ((j : Int) == 0) = false := by simp only [beq_eq_false_iff_ne, ne_eq]; omega
                    have k1 : ((j : Int) == (a1 : Int)) = false := by simp only [beq_eq_false_iff_ne, ne_eq]; omega
                    have k2 : ((j : Int) == (a2 : Int)) = false := by simp only [beq_eq_false_iff_ne, ne_eq]; omega
                    have k3 : ((j : Int) == (a3 : Int)) = false := by simp only [beq_eq_false_iff_ne, ne_eq]; omega
                    have HNO := Lib.hid hno
                    clear FIN FNO hno c hO1 hB1 hX hN
                    go_wp2
                    rw [HNO.out] at hO
                    exact ⟨⟨j + 1, by simp, by omega, hO, hB⟩, by simp [intOf]; omega⟩
                · have hjn : n = j := by omega
                  subst hjn
                  have t1 : decide ((n : Int) < (n : Int)) = false := by simp
                  rw [HSEL.out] at hO
                  go_wp2
                  go_ret2
                  exact ⟨_, rfl, hO, hB⟩

theorem refPatchC {A : Option Addr} {n : Nat} (cap : Nat) {l : List Spo} (w : World) (h : SlC w A n cap l) : RetQ #[.slice A n cap] w (patchS l) (checkS l) := by
  by_cases hc : checkS l = 0
  · by_cases hn : n ≤ 4
    · rw [show patchS l = l by unfold patchS; rw [if_pos hc, if_pos (by rw [h.1.1]; exact hn)], hc]
      exact rF w h hc hn
    · obtain ⟨b, off, rfl, hb, hs⟩ := h.1.2 (by omega)
      rw [show patchS l = (places l).map fun i => nth l i.toNat by unfold patchS; rw [if_pos hc, if_neg (by rw [h.1.1]; exact hn)], hc]
      exact rG w hb hs h.1.1 hc (by omega)
  · rw [show patchS l = [] by unfold patchS; rw [if_neg hc]]
    exact rE w h.1 _ rfl hc
end RPa
end Go.Proofs.Ytbbiefgmlklafaa
namespace Go.Proofs.Ytbbiefgmlklafaa
set_option linter.unusedVariables false
set_option linter.unusedSimpArgs false
open Go.RowKit Go.NP
namespace POw
open PGr PCk PCl PPl PSo
set_option maxRecDepth 100000 in
set_option maxHeartbeats 2000000 in
theorem ofBig {A : Option Addr} {n cap : Nat} (w : World) (hn : 300 < n) : RetB Try.prog 3 #[.slice A n cap] w (.bool true) := by
  have t : decide ((n : Int) > 300) = true := decide_eq_true (by omega)
  unfold RetB
  go_enter Try.func3, Try.ntmps3
  go_wp2_with fail
  refine (PSq.awakeC _).mono ?_
  rintro e w1 ⟨rfl, hS⟩
  go_wp2
  go_ret
  exact ⟨rfl, hS⟩
theorem own_box {w : World} {base : Nat} {v : Value} {l : List Spo} {k : Nat} (h : OwnS w base v l) (hk : l.length = k) : (v = .slice none 0 0 ∧ k = 0) ∨ ∃ g c cur, v = .slice (some ⟨g, 0, none⟩) k c ∧ base ≤ g ∧ Box w g cur 32 ∧ k * 5 ≤ cur.length := by
  subst hk
  rcases h.2 with h1 | ⟨g, cap, cur, h1, hb, hg, hc, hm, hsz, hx⟩
  · exact .inl h1
  · refine .inr ⟨g, cap, cur.toList, h1, hb, hg, ?_⟩
    simp only [Array.length_toList, hsz]
    exact Nat.mul_le_mul_right 5 hc
set_option maxRecDepth 100000 in
set_option maxHeartbeats 4000000 in
theorem ofFew {A : Option Addr} {n cap : Nat} {l : List Spo} (w : World) (h : SlC w A n cap l) (hn : n ≤ 300) : RetB Try.prog 3 #[.slice A n cap] w (.bool true) := by
  have t : decide ((n : Int) > 300) = false := decide_eq_false (by omega)
  have H := Lib.hid h
  have hln := h.1.1
  clear h
  unfold RetB
  go_enter Try.func3, Try.ntmps3
  have hN := (Below.refl w.heap.size w).alloc (Nat.le_refl _) (.cells (spvs []).toArray 32)
  have HS := Lib.hid (show SlC (w.alloc (.cells (spvs []).toArray 32)) A n cap l from ⟨H.out.1.step hN, H.out.2⟩)
  have hO := PSq.own_new w [] (by decide)
  go_wp2_with (at_builtin; refine wpL_all rfl (.tmp 13) (.tmp 14) (by rfl) (by rfl) hO (by rfl) HS.out (by decide) (by omega) (by simp) ?_; intro vo w3 hO3 hB3)
  have hW := hB3 _ hN
  have hO3 := hO3
  rw [List.nil_append] at hO3
  obtain ⟨Ao, co, rfl, ho⟩ := hO3.sl
  rw [hln] at ho ⊢
  have HL := Lib.hid (H.out.1.step hW)
  have HO := Lib.hid ho
  have HCP := H.out.2
  clear hO hN HS hB3 hO3 ho H
  refine (PPa.patchC co w3 HO.out).mono ?_
  rintro e w4 ⟨va, rfl, hOa, hB⟩
  go_wp2_with fail
  refine (RPa.refPatchC cap w4 ⟨HL.out.step hB, HCP⟩).mono ?_
  rintro e w5 ⟨vb, rfl, hOb, hS⟩
  have hp4 := patch_len l
  have hOa := hOa.step hS; have hB := hB.trans (hS.mono hB.size)
  clear hS HCP
  generalize hcs : checkS l = c at *
  have HCS := Lib.hid hcs
  clear hcs
  generalize patchS l = p at *
  obtain ⟨k, hk⟩ : ∃ k, p.length = k := ⟨_, rfl⟩
  have hbx := own_box hOa hk
  obtain ⟨Aa, ca, rfl, ha⟩ := hOa.sl
  obtain ⟨Ab, cb, rfl, hb⟩ := hOb.sl
  rw [hk] at ha hb hp4 hbx ⊢
  go_wp2_with fail
  refine ((PSa.sameC w5 ha hb (by omega)).eq (v' := .bool true) (by simp)).mono ?_
  rintro e w6 ⟨rfl, hS⟩
  have hbx : (Aa = none ∧ k = 0) ∨ ∃ g cur, Aa = some ⟨g, 0, none⟩ ∧ w3.heap.size ≤ g ∧ Box w6 g cur 32 ∧ k * 5 ≤ cur.length := by
    rcases hbx with ⟨h1, h2⟩ | ⟨g, c, cur, h1, h2, h3, h4⟩
    · exact .inl ⟨by cases h1; rfl, h2⟩
    · exact .inr ⟨g, cur, by cases h1; rfl, h2, h3.step hS, h4⟩
  have hB := hB.trans (hS.mono hB.size)
  have e0 : (c != c) = false := by simp
  clear hOa hOb ha hb hS
  go_wp2_with fail
  refine ((PCk.checkC co (HO.out.step hB)).eq (v' := .int .i64 c) (by rw [HCS.out])).mono ?_
  rintro e w7 ⟨rfl, hS⟩
  have hB := hB.trans (hS.mono hB.size)
  have hbx : (Aa = none ∧ k = 0) ∨ ∃ g cur, Aa = some ⟨g, 0, none⟩ ∧ w3.heap.size ≤ g ∧ Box w7 g cur 32 ∧ k * 5 ≤ cur.length := by
    rcases hbx with h1 | ⟨g, cur, h1, h2, h3, h4⟩
    · exact .inl h1
    · exact .inr ⟨g, cur, h1, h2, h3.step hS, h4⟩
  clear hS
  go_wp2_with fail
  refine ((PRe.checkRC cap w7 (HL.out.step hB)).eq (v' := .int .i64 c) (by rw [HCS.out])).mono ?_
  rintro e w8 ⟨rfl, hS⟩
  have hB := hB.trans (hS.mono hB.size)
  have hbx : (Aa = none ∧ k = 0) ∨ ∃ g cur, Aa = some ⟨g, 0, none⟩ ∧ w3.heap.size ≤ g ∧ Box w8 g cur 32 ∧ k * 5 ≤ cur.length := by
    rcases hbx with h1 | ⟨g, cur, h1, h2, h3, h4⟩
    · exact .inl h1
    · exact .inr ⟨g, cur, h1, h2, h3.step hS, h4⟩
  clear hS HCS
  have HBX := Lib.hid hbx
  clear hbx
  go_wp2_with fail
  go_loopw [8] (fun i wr => ∃ j : Nat, i = .int .i64 j ∧ j ≤ k ∧ ((Aa = none ∧ k = 0) ∨ ∃ g cur, Aa = some ⟨g, 0, none⟩ ∧ w3.heap.size ≤ g ∧ Box wr g cur 32 ∧ k * 5 ≤ cur.length) ∧ Below w3.heap.size w3 wr) (fun i _ => k - (intOf i).toNat)
  case atStart => exact ⟨0, rfl, Nat.zero_le _, HBX.out, hB⟩
  case round =>
    clear hB HBX
    obtain ⟨j, rfl, hj, hbx, hB⟩ := hrel
    by_cases hlt : j < k
    · have t1 : decide ((j : Int) < (k : Int)) = true := by simpa using hlt
      rcases hbx with ⟨_, h0⟩ | ⟨g, cur, rfl, hg, hX, hc⟩
      · omega
      · have z0 := (hX.cell (j * 5)).trans (List.getElem?_eq_getElem (by omega))
        have z1 := (hX.cell (j * 5 + 1)).trans (List.getElem?_eq_getElem (by omega))
        have z2 := (hX.cell (j * 5 + 2)).trans (List.getElem?_eq_getElem (by omega))
        have z3 := (hX.cell (j * 5 + 3)).trans (List.getElem?_eq_getElem (by omega))
        have z4 := (hX.cell (j * 5 + 4)).trans (List.getElem?_eq_getElem (by omega))
        have zf := hX.free
        go_wp2_with fail
        exact ⟨⟨j + 1, by simp, by omega, .inr ⟨g, _, rfl, hg, (((((hX.set _ _).set _ _).set _ _).set _ _).set _ _), by simpa using hc⟩, (((((hB.setCell hg _).setCell hg _).setCell hg _).setCell hg _).setCell hg _)⟩, by simp [intOf]; omega⟩
    · have hjk : k = j := by omega
      subst hjk
      have t1 : decide ((k : Int) < (k : Int)) = false := by simp
      go_wp2_with fail
      refine ((PSa.sameC wr (HO.out.step hB) (HL.out.step hB) (by omega)).eq (v' := .bool true) (by simp)).mono ?_
      rintro e w9 ⟨rfl, hS⟩
      have hB := hB.trans (hS.mono hB.size)
      go_wp2_with fail
      refine (PSq.awakeC _).mono ?_
      rintro e w10 ⟨rfl, hS2⟩
      have hB := hB.trans (hS2.mono hB.size)
      have hW := hW.trans (hB.mono hW.size)
      go_wp2
      go_ret
      exact ⟨rfl, hW⟩
theorem ofC {A : Option Addr} {n : Nat} (cap : Nat) {l : List Spo} (w : World) (h : SlC w A n cap l) : RetB Try.prog 3 #[.slice A n cap] w (.bool true) := by
  by_cases hn : n ≤ 300
  · exact ofFew w h hn
  · exact ofBig w (by omega)
end POw
end Go.Proofs.Ytbbiefgmlklafaa
namespace Go.Proofs.Ytbbiefgmlklafaa
set_option linter.unusedVariables false
set_option linter.unusedSimpArgs false
open Go.Joins Go.ChangeShapes Go.WideShapes Go.ChangeAt Go.RowKit Go.Deep Go.NP
theorem own : ownKnob Try.prog.godebug = none := by kernel_rfl
theorem laidOut : laidOutB Try.prog = true := by kernel_rfl
theorem cellsPt : Try.prog.cellsOf 30 = 3 := by kernel_rfl
theorem cellsSt : Try.prog.cellsOf 32 = 5 := by kernel_rfl
theorem cellsI : Try.prog.cellsOf 2 = 1 := by kernel_rfl
theorem cellsN : Try.prog.cellsOf 3 = 1 := by kernel_rfl
instance : Inhabited Spo := ⟨⟨0, 0, ⟨0, 0, 0⟩⟩⟩
theorem spot_none {w : World} {a : Addr} {v : Value} (h : w.cell? a = some v) : a.spot = none ∧ a.block < w.heap.size := by
  unfold World.cell? at h
  split at h
  · rename_i hb
    split at h
    · cases h
    · rename_i hs
      refine ⟨by simpa using hs, ?_⟩
      rcases Nat.lt_or_ge a.block w.heap.size with h' | h'
      · exact h'
      · rw [Array.getElem?_eq_none h'] at hb; cases hb
  · cases h
theorem add_plain (b off n : Nat) : (⟨b, off, none⟩ : Addr).add n = ⟨b, off + n, none⟩ := by
  unfold Addr.add
  by_cases h : n = 0
  · simp [h]
  · simp [h]
section
variable {H : Type} {enc : TypeId × Value → H} {w : World} {base : Nat} {spare : Nat → Bool} {held : Bool}
theorem open_pt3 {n : Nat} {c0 c1 c2 : Value} {x : DataW H × List MemPlace} (h : DataW.trod enc Try.prog w base spare held n 30 [c0, c1, c2] = some x) : ∃ p : Pt, c0 = .int .i64 p.x ∧ c1 = .int .i64 p.y ∧ c2 = .int .i64 p.z := by
  obtain ⟨xs, m, _, hx, _, hlen, hg⟩ := DataW.trod_struct Try.underlying30 h
  match xs, hlen with
  | [y0, y1, y2], _ =>
    have g0 : DataW.trod enc Try.prog w base spare held m 2 [c0] = some y0 := by
      have t : DataW.trod enc Try.prog w base spare held m 2 (List.take (Try.prog.cellsOf 2) (List.drop 0 [c0, c1, c2])) = some y0 := hg 0 _ rfl
      rw [cellsI] at t; exact t
    have g1 : DataW.trod enc Try.prog w base spare held m 2 [c1] = some y1 := by
      have t : DataW.trod enc Try.prog w base spare held m 2 (List.take (Try.prog.cellsOf 2) (List.drop 1 [c0, c1, c2])) = some y1 := hg 1 _ rfl
      rw [cellsI] at t; exact t
    have g2 : DataW.trod enc Try.prog w base spare held m 2 [c2] = some y2 := by
      have t : DataW.trod enc Try.prog w base spare held m 2 (List.take (Try.prog.cellsOf 2) (List.drop 2 [c0, c1, c2])) = some y2 := hg 2 _ rfl
      rw [cellsI] at t; exact t
    obtain ⟨a, ha, _⟩ := DataW.trod_int Try.underlying2 g0
    obtain ⟨b, hb, _⟩ := DataW.trod_int Try.underlying2 g1
    obtain ⟨c, hc, _⟩ := DataW.trod_int Try.underlying2 g2
    simp only [List.cons.injEq, and_true] at ha hb hc
    exact ⟨⟨a, b, c⟩, ha, hb, hc⟩
set_option maxRecDepth 100000 in
theorem open_pt {r : Reach} {b0 : Nat} {v : Value} {d : DataW H} {p : List MemPlace} (hv : Value.okWide Try.prog w r b0 30 v) (h : DataW.Trod enc Try.prog w base spare held 30 v d p) : ∃ a : Pt, v = .agg #[.int .i64 a.x, .int .i64 a.y, .int .i64 a.z] := by
  obtain ⟨cs, rfl, hsz⟩ := okWide_struct Try.underlying30 hv
  obtain ⟨l⟩ := cs
  match l, hsz.trans cellsPt with
  | [c0, c1, c2], _ =>
    obtain ⟨fuel, hf⟩ := h
    obtain ⟨p, rfl, rfl, rfl⟩ := open_pt3 hf
    exact ⟨p, rfl⟩
theorem open_st5 {n : Nat} {c0 c1 c2 c3 c4 : Value} {x : DataW H × List MemPlace} (h : DataW.trod enc Try.prog w base spare held n 32 [c0, c1, c2, c3, c4] = some x) : ∃ s : Spo, c0 = .int .i64 s.side ∧ c1 = .int .i64 s.at_ ∧ c2 = .int .i64 s.p.x ∧ c3 = .int .i64 s.p.y ∧ c4 = .int .i64 s.p.z := by
  obtain ⟨xs, m, _, hx, _, hlen, hg⟩ := DataW.trod_struct Try.underlying32 h
  match xs, hlen with
  | [y0, y1, y2], _ =>
    have g0 : DataW.trod enc Try.prog w base spare held m 3 [c0] = some y0 := by
      have t : DataW.trod enc Try.prog w base spare held m 3 (List.take (Try.prog.cellsOf 3) (List.drop 0 [c0, c1, c2, c3, c4])) = some y0 := hg 0 _ rfl
      rw [cellsN] at t; exact t
    have g1 : DataW.trod enc Try.prog w base spare held m 3 [c1] = some y1 := by
      have t : DataW.trod enc Try.prog w base spare held m 3 (List.take (Try.prog.cellsOf 3) (List.drop 1 [c0, c1, c2, c3, c4])) = some y1 := hg 1 _ rfl
      rw [cellsN] at t; exact t
    have g2 : DataW.trod enc Try.prog w base spare held m 30 [c2, c3, c4] = some y2 := by
      have t : DataW.trod enc Try.prog w base spare held m 30 (List.take (Try.prog.cellsOf 30) (List.drop 2 [c0, c1, c2, c3, c4])) = some y2 := hg 2 _ rfl
      rw [cellsPt] at t; exact t
    obtain ⟨a, ha, _⟩ := DataW.trod_int Try.underlying3 g0
    obtain ⟨b, hb, _⟩ := DataW.trod_int Try.underlying3 g1
    obtain ⟨q, h2, h3, h4⟩ := open_pt3 g2
    simp only [List.cons.injEq, and_true] at ha hb
    exact ⟨⟨a, b, q⟩, ha, hb, h2, h3, h4⟩
set_option maxRecDepth 100000 in
theorem open_sps {r : Reach} {b0 : Nat} {v : Value} {d : DataW H} {p : List MemPlace} (hv : Value.okWide Try.prog w r b0 22 v) (h : DataW.Trod enc Try.prog w base spare held 22 v d p) :
    ∃ A n cap l, v = .slice A n cap ∧ SlS w A n l := by
  obtain ⟨A, n, cap, rfl⟩ := okWide_slice Try.underlying22 hv
  obtain ⟨fuel, hf⟩ := h
  have hf : DataW.trod enc Try.prog w base spare held fuel 22 [.slice A n cap] = some (d, p) := hf
  rcases open_slice Try.underlying22 hf with ⟨h0, _⟩ | ⟨a, len, cap', m, nn, D, Pl, hcs, hb, hl, hm, hmm, hx, hi⟩
  · simp only [List.cons.injEq, Value.slice.injEq, and_true] at h0
    obtain ⟨rfl, rfl, rfl⟩ := h0
    exact ⟨none, 0, 0, [], rfl, rfl, fun h => absurd h (by omega)⟩
  · simp only [List.cons.injEq, Value.slice.injEq, and_true] at hcs
    obtain ⟨rfl, rfl, rfl⟩ := hcs
    have hmn : n ≤ m := by rw [hmm]; split <;> omega
    have key : ∀ i, i < n → ∃ s : Spo, ∀ j v, (spv s)[j]? = some v → w.cell? ((a.add (i * 5)).add j) = some v := by
      intro i hin
      obtain ⟨cs', hc, ht'⟩ := hi i (by omega)
      rw [cellsSt] at hc
      obtain ⟨_, hcl, hat⟩ := World.cells?_some hc
      match cs', hcl with
      | [c0, c1, c2, c3, c4], _ =>
        obtain ⟨s, rfl, rfl, rfl, rfl, rfl⟩ := open_st5 ht'
        refine ⟨s, fun j v hv => ?_⟩
        have hj : j < 5 := PCl.get_lt hv
        have := hat j hj
        rw [this]
        exact hv
    obtain ⟨f, hf'⟩ := choose_lt key
    refine ⟨some a, n, cap, (List.range n).map f, rfl, by simp, fun hn => ?_⟩
    obtain ⟨hs, hblk⟩ := spot_none (hf' 0 hn 0 _ rfl)
    obtain ⟨b, off, sp⟩ := a
    have hs : sp = none := by
      have : (Addr.mk b off sp).spot = none := by simpa [Addr.add] using hs
      exact this
    subst hs
    refine ⟨b, off, rfl, by simpa [add_plain] using hblk, fun k x hk j v hv => ?_⟩
    have hkn : k < n := by
      rcases Nat.lt_or_ge k n with h' | h'
      · exact h'
      · rw [List.getElem?_eq_none (by simp; exact h')] at hk; cases hk
    rw [List.getElem?_map, List.getElem?_range hkn] at hk
    simp only [Option.map_some, Option.some.injEq] at hk
    subst hk
    have := hf' k hkn j v hv
    simp only [add_plain] at this
    exact this
end
end Go.Proofs.Ytbbiefgmlklafaa
namespace Go.Proofs.Ytbbiefgmlklafaa
set_option linter.unusedVariables false
set_option linter.unusedSimpArgs false
open Go.Joins Go.ChangeShapes Go.WideShapes Go.ChangeAt Go.RowKit Go.Deep Go.NP
section
variable {H : Type} {enc : TypeId × Value → H} {w : World} {base : Nat} {spare : Nat → Bool} {held : Bool}
set_option maxRecDepth 100000 in
theorem open_spc {r : Reach} {b0 : Nat} {v : Value} {d : DataW H} {p : List MemPlace} (hv : Value.okWide Try.prog w r b0 22 v) (h : DataW.Trod enc Try.prog w base spare held 22 v d p) :
    ∃ A n cap l, v = .slice A n cap ∧ SlC w A n cap l := by
  obtain ⟨A, n, cap, l, rfl, hs⟩ := open_sps hv h
  refine ⟨A, n, cap, l, rfl, hs, ?_⟩
  obtain ⟨fuel, hf⟩ := h
  have hf : DataW.trod enc Try.prog w base spare held fuel 22 [.slice A n cap] = some (d, p) := hf
  rcases open_slice Try.underlying22 hf with ⟨h0, _⟩ | ⟨a, len, cap', m, nn, D, Pl, hcs, hb, hl, hm, hmm, hx, hi⟩
  · simp only [List.cons.injEq, Value.slice.injEq, and_true] at h0
    obtain ⟨rfl, rfl, rfl⟩ := h0
    exact fun _ => rfl
  · simp only [List.cons.injEq, Value.slice.injEq, and_true] at hcs
    obtain ⟨rfl, rfl, rfl⟩ := hcs
    exact fun e => by cases e
end
end Go.Proofs.Ytbbiefgmlklafaa
namespace Go.Proofs.Ytbbiefgmlklafaa
set_option linter.unusedVariables false
open Go.Joins Go.ChangeShapes Go.WideShapes Go.ChangeAt Go.RowKit Go.Deep Go.NP
set_option maxRecDepth 100000 in
theorem patchOfLifted (os : Os) (started : os.Started) (H : Type) (enc : TypeId × Value → H) :
    ReturnsInHanded {} Try.checked os 3 .any (Rows.patchOfSpec.pre6 enc Try.prog Try.f3 Rows.patchOfRow.domain false) (Rows.patchOfSpec.post enc Try.prog Try.f3 false true false false) := by
  refine returnsInHanded_of_change (C := Try.checked) own started (by kernel_rfl) Try.func3
    (ChangeSpec.witness6 (enc := enc) (C := Try.checked) false ⟨#[], #[.slice none 0 0], []⟩ 8 (by kernel_rfl) (by kernel_rfl) (by kernel_rfl) (by kernel_rfl)) ?_
  intro W base args ds gs before hval0 hW hcnd _
  have hval : ∀ (j : Nat) t v, Try.f3.params[j]? = some t → args[j]? = some v → Value.okWide Try.prog W .any base t v := hval0
  have hW' := hW
  obtain ⟨p, q, hA0, hV, rfl, hfz, hnd⟩ := hW
  have hA : DataW.TrodAll enc Try.prog W 0 (fun _ => true) true Try.f3.params.toList args.toList ds p := hA0
  rw [Try.params3] at hA hval
  obtain ⟨v0, vs0, d0, ds0, p0, q0, hargs, rfl, rfl, h0, r0⟩ := trodAll_cons hA
  obtain ⟨rfl, rfl, rfl⟩ := trodAll_nil r0
  obtain rfl : args = #[v0] := by cases args; simp_all
  obtain ⟨rfl, rfl⟩ := trodVars_none hV
  have k0 := h0
  have lt0 : ∀ x ∈ p0, x.block < W.heap.size := by obtain ⟨m, hm⟩ := k0; exact DataW.trod_lt m _ _ _ hm
  obtain ⟨A0, n0, c0, a0, rfl, hs0⟩ := open_spc (hval 0 22 v0 rfl rfl) h0
  clear hA0 hval0
  refine Calls.mono (POw.ofC c0  W hs0) fun e W' ⟨he, bel⟩ => ?_
  subst he
  exact ⟨_, rfl, _, _, _, [], _, [], hW', trodAll_mk1 (shut_bool Try.underlying4 _), (trodAll_cons_mk (Below.trod laidOut (by kernel_rfl) (of_decide_eq_true (by kernel_rfl)) k0 bel lt0) trodAll_mk0), rfl, bel.frame _, fun h => by cases h⟩
theorem patchOf_holds : Rows.PatchOfSaid :=
  OpenClaim.holds_of_wide 3 Try.f3 rfl rfl rfl rfl rfl rfl rfl ⟨rfl, rfl, rfl, rfl, rfl⟩ rfl rfl rfl rfl rfl (by kernel_rfl) Try.func3 (by kernel_rfl)
    (of_decide_eq_true (by kernel_rfl)) (by unfold Func.isWrapper; first | (rw [if_pos (by decide +kernel)]; kernel_rfl) | (rw [if_neg (by decide +kernel)]; exact ⟨rfl, rfl⟩))
    (fun os started H enc _ => patchOfLifted os started H enc)
end Go.Proofs.Ytbbiefgmlklafaa
