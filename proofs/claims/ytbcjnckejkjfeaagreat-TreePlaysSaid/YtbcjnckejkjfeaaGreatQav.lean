/- A tree's pairs sorted by the library: the contract turned. Condition: the pairs may be. -/
import Derived.Test.YtbcjnckejkjfeaaGreatQae
import Derived.Lib.Hide
import Derived.IntWalk
import Derived.Test.YtbcjnckejkjfeaaGreatQaq
import Derived.Shelf.SlSortCmp.NoneTotal
namespace Go.Proofs.YtbcjnckejkjfeaaGreat
set_option linter.unusedVariables false
set_option linter.unusedSimpArgs false
open Go.RowKit Go.NP Go.Lib Go.Sort
def okP (p : Pr) : Prop := 1 ≤ p.a ∧ p.a < p.b ∧ p.b ≤ 4096
instance (p : Pr) : Decidable (okP p) := by unfold okP; infer_instance
/-- One stands ahead of another. -/
def ltP (p q : Pr) : Prop := p.a < q.a ∨ p.a = q.a ∧ p.b < q.b
instance (p q : Pr) : Decidable (ltP p q) := by unfold ltP; infer_instance
def ordI (p q : Pr) : Int := if p.a - q.a = 0 then p.b - q.b else p.a - q.a
theorem ordI_lt (p q : Pr) : ordI p q < 0 ↔ ltP p q := by unfold ordI ltP; split <;> omega
namespace QOx
theorem orX {x y : Int} {g : Nat} (w : World) (h : Box w g [.int .i64 x, .int .i64 y] 3) : Calls Tryz.prog 29 #[.slice (some ⟨g, 0, none⟩) 2 2] w fun e w' => e = .returned (.int .i64 (if x = 0 then y else x)) ∧ w' = w := by
  have z0 := h.cell 0; have z1 := h.cell 1
  simp only [List.getElem?_cons_zero, List.getElem?_cons_succ] at z0 z1
  obtain ⟨r, hr⟩ : ∃ r, (if x = 0 then y else x) = r := ⟨_, rfl⟩
  rw [hr]
  go_enter Tryz.func29, Tryz.ntmps29
  go_wp2_with fail
  by_cases hx : x = 0
  · rw [if_pos hx] at hr
    have e1 : (x != 0) = false := by simp [hx]
    by_cases hy : y = 0
    · have e2 : (y != 0) = false := by simp [hy]
      have hr0 : r = 0 := by rw [← hr, hy]
      clear hr
      subst hr0
      refine wp_loop_rounds 3 ?_
      rw [rounds_succ]
      go_wp2_with fail
      rw [rounds_succ]
      go_wp2_with fail
      rw [rounds_succ]
      go_wp2_with fail
      go_ret
      exact ⟨rfl, rfl⟩
    · have e2 : (y != 0) = true := by simp [hy]
      subst hr
      refine wp_loop_rounds 2 ?_
      rw [rounds_succ]
      go_wp2_with fail
      rw [rounds_succ]
      go_wp2_with fail
      go_ret
      exact ⟨rfl, rfl⟩
  · rw [if_neg hx] at hr
    subst hr
    have e1 : (x != 0) = true := by simp [hx]
    refine wp_loop_rounds 1 ?_
    rw [rounds_succ]
    go_wp2_with fail
    go_ret
    exact ⟨rfl, rfl⟩
theorem orderX {p q : Pr} (hp : okP p) (hq : okP q) (w : World) : Calls Tryz.prog 28 #[.agg #[.int .i64 p.a, .int .i64 p.b], .agg #[.int .i64 q.a, .int .i64 q.b]] w fun e w' => e = .returned (.int .i64 (ordI p q)) ∧ ∃ k os, w' = «Sort».grow (w.drewN k) os := by
  obtain ⟨a1, a2, a3⟩ := hp
  obtain ⟨b1, b2, b3⟩ := hq
  obtain ⟨r, hr⟩ : ∃ r, ordI p q = r := ⟨_, rfl⟩
  rw [hr]
  have HO := Lib.hid (fun (w1 : World) g (h : Box w1 g [.int .i64 (p.a - q.a), .int .i64 (p.b - q.b)] 3) => (show Calls Tryz.prog 29 #[.slice (some ⟨g, 0, none⟩) 2 2] w1 fun e w' => e = .returned (.int .i64 r) ∧ w' = w1 from by rw [← hr]; exact orX w1 h))
  clear hr
  go_enter Tryz.func28, Tryz.ntmps28
  go_wp2_with fail
  refine (HO.out _ _ (Box.new (by simp))).mono ?_
  rintro e w1 ⟨rfl, rfl⟩
  go_wp2
  go_ret
  exact ⟨rfl, 0, _, by rw [alloc_eq_grow, alloc_eq_grow, alloc_eq_grow, «Sort».grow_grow, «Sort».grow_grow]; rfl⟩
end QOx
namespace QSo
structure OkP where
  val : Pr
  ok : okP val
instance : Inhabited OkP := ⟨⟨⟨1, 2⟩, by decide⟩⟩
def encP (p : OkP) : List Value := prv p.1
def cfP (p q : OkP) : Int := ordI p.1 q.1
theorem lt_is (p q : OkP) : ltOf cfP p q = decide (ltP p.1 q.1) := by
  unfold ltOf cfP
  have := ordI_lt p.1 q.1
  by_cases c : ltP p.1 q.1
  · simp [c, this.2 c]
  · have h : ¬ ordI p.1 q.1 < 0 := fun h => c (this.1 h)
    simp [c, h]
theorem swoP : SWO (ltOf cfP) where
  irrefl x := by rw [lt_is]; simp [ltP]
  trans x y z h1 h2 := by rw [lt_is] at *; simp only [decide_eq_true_eq] at *; unfold ltP at *; omega
  ntrans x y z h1 h2 := by rw [lt_is] at *; simp only [decide_eq_false_iff_not] at *; unfold ltP at *; omega
theorem totP (x y : OkP) (h1 : ltOf cfP x y = false) (h2 : ltOf cfP y x = false) : x = y := by
  rw [lt_is] at *
  simp only [decide_eq_false_iff_not] at *
  obtain ⟨⟨a, b⟩, hx⟩ := x; obtain ⟨⟨c, d⟩, hy⟩ := y
  have : a = c ∧ b = d := by unfold ltP at *; simp only at *; omega
  obtain ⟨rfl, rfl⟩ := this
  rfl
theorem laysP (blk off size : Nat) (w : World) : CmpLays Tryz.prog 28 #[] encP 2 cfP blk off size w :=
  fun _ _ _ _ x y => QOx.orderX x.2 y.2 _
theorem lift (l : List Pr) (h : ∀ p ∈ l, okP p) : ∃ pl : List OkP, pl.map OkP.val = l := by
  induction l with
  | nil => exact ⟨[], rfl⟩
  | cons x r ih =>
    obtain ⟨pl, e⟩ := ih fun p hp => h p (List.mem_cons_of_mem _ hp)
    exact ⟨⟨x, h x (List.mem_cons_self ..)⟩ :: pl, by rw [List.map_cons, e]⟩
theorem flat_get (pl : List OkP) {j : Nat} (hj : j < pl.length * 2) : (prvs (pl.map OkP.val))[j]? = some (flatK encP 2 pl.toArray)[j]! := by
  have h1 : j / 2 < pl.length := by omega
  have hx : (pl.map OkP.val)[j / 2]? = some (pl[j / 2]).1 := by rw [List.getElem?_map, List.getElem?_eq_getElem h1]; rfl
  have hm : j % 2 < (prv (pl[j / 2]).1).length := by simp [prv]; omega
  have := prvs_get _ (j / 2) _ (j % 2) _ hx (List.getElem?_eq_getElem hm)
  rw [show j / 2 * 2 + j % 2 = j by omega] at this
  rw [this, get_flatK _ _ _ _ (by simpa using hj)]
  congr 1
  rw [getElem!_pos pl.toArray _ (by simpa using h1)]
  show _ = (encP (pl.toArray[j / 2]'(by simpa using h1)))[j % 2]!
  rw [List.getElem_toArray]
  unfold encP
  exact (getElem!_pos (prv (pl[j / 2]).1) (j % 2) hm).symm
theorem cfO : ∀ args w1, (callFunc 28 args).run Tryz.prog w1 = .ok (.enter 28 args) w1 := by
  intro args w1
  exact enters_of Tryz.func28 (by kernel_rfl) rfl args w1
theorem sorted_take {cur : Array Value} {l r : List OkP} (hs : l.length * 2 ≤ cur.size) (hl : r.length = l.length) : (putCells id 0 (flatK encP 2 r.toArray) cur).toList.take (l.length * 2) = prvs (r.map OkP.val) := by
  apply List.ext_getElem?
  intro j
  by_cases hj : j < l.length * 2
  · rw [List.getElem?_take_of_lt hj, flat_get r (by omega)]
    have hc : j < cur.size := by omega
    simp only [putCells, Array.getElem?_toList, Array.getElem?_mapIdx, size_flatK]
    rw [Array.getElem?_eq_getElem hc]
    have : j < r.length * 2 := by omega
    simp [this]
  · rw [List.getElem?_eq_none (by rw [List.length_take]; omega), List.getElem?_eq_none (by rw [prvs_len, List.length_map]; omega)]
set_option maxRecDepth 100000 in
set_option maxHeartbeats 1000000 in
theorem sortC {base : Nat} {v : Value} {l : List Pr} (w : World) (h : OwnS w base v l) (hok : ∀ p ∈ l, okP p) (hn : l.length ≤ 65536) :
    Calls Tryz.prog 30 #[v, .func (.func 28) #[] #[]] w fun e w' => e = .returned (.tuple #[]) ∧ (∃ r, r.Perm l ∧ r.Pairwise (fun x y => ¬ ltP y x) ∧ OwnS w' base v r) ∧ ∀ w0, Below base w0 w → Below base w0 w' := by
  obtain ⟨pl, rfl⟩ := lift l hok
  rw [List.length_map] at hn
  rcases h.2 with ⟨rfl, h0⟩ | ⟨g, cap, cur, rfl, hb, hg, hc, hm, hsz, hx⟩
  · have e : pl = [] := List.eq_nil_of_length_eq_zero (by simpa using h0)
    subst e
    refine (AnyF.slices_SortFunc_none Tryz.sortPa none 0 (.func (.func 28) #[] #[]) w).mono ?_
    rintro e w' ⟨rfl, rfl⟩
    exact ⟨rfl, ⟨[], List.Perm.refl _, List.Pairwise.nil, h⟩, fun w0 hB => hB⟩
  · have hlm : (pl.map OkP.val).length = pl.length := List.length_map _
    simp only [hlm] at hc hsz hx ⊢
    have hlt : g < w.heap.size := (Array.getElem?_eq_some_iff.1 hg).1
    have hB : Box w g cur.toList 56 := hg
    have hH : HoldsK encP 2 w g 0 pl.toArray := fun j hj => by
      have hj' : j < pl.length * 2 := by rw [size_flatK] at hj; simpa using hj
      have h1 := flat_get pl hj'
      rw [← hx, List.getElem?_take_of_lt hj'] at h1
      refine ⟨?_, by rw [Nat.zero_add]; exact hB.free j⟩
      rw [Nat.zero_add, hB.cell j]
      exact h1
    have hcon := AnyQ.slices_SortFunc_total Tryz.sortPa 2 Tryz.isAgg56 Tryz.sizeOf56 encP (fun _ => rfl) (fun x v hv => prv_one v hv) cfP swoP 28 #[] g 0 cap pl.toArray w cfO (laysP _ _ _ _) hH hlt (by simp; omega) totP
    rw [List.size_toArray] at hcon
    change Calls Tryz.prog 30 _ _ _ at hcon
    refine hcon.mono ?_
    rintro e w' ⟨rfl, n, os, rfl⟩
    refine ⟨rfl, ⟨(pl.mergeSort fun x y => !(ltOf cfP) y x).map OkP.val, ?_, ?_, ?_⟩, ?_⟩
    · exact (List.mergeSort_perm _ _).map _
    · rw [List.pairwise_map]
      refine (List.pairwise_mergeSort (fun a b c h1 h2 => ?_) (fun a b => ?_) pl).imp fun {a b} h => ?_
      · rw [lt_is] at *; simp at *; unfold ltP at *; omega
      · rw [lt_is, lt_is]; simp; unfold ltP; omega
      · rw [lt_is] at h; simpa using h
    · have hl : (pl.mergeSort fun x y => !(ltOf cfP) y x).length = pl.length := List.length_mergeSort _
      generalize (pl.mergeSort fun x y => !(ltOf cfP) y x) = r at *
      have hlr : (r.map OkP.val).length = pl.length := by rw [List.length_map, hl]
      refine ⟨prvs_len _, .inr ⟨g, cap, putCells id 0 (flatK encP 2 r.toArray) cur, by rw [hlr], hb, ?_, by rw [hlr]; exact hc, hm, ?_, ?_⟩⟩
      · unfold sortWorldK
        rw [heap_grow_old _ _ (by show g < (mapBlock _ _ _).heap.size; simpa [mapBlock] using hlt)]
        show (w.heap.modify g (onCells (putCells id 0 (flatK encP 2 r.toArray))))[g]? = _
        rw [Array.getElem?_modify, if_pos rfl, hg]
        rfl
      · rw [← hsz]; simp [putCells]
      · rw [hlr]
        exact sorted_take (by rw [hsz]; exact Nat.mul_le_mul_right 2 hc) hl
    · intro w0 hB0
      refine hB0.trans ⟨rfl, rfl, rfl, ?_, fun k hk => ?_⟩
      · unfold sortWorldK «Sort».grow putRowK putRow mapBlock; simp
      · unfold sortWorldK
        have hk' : k < w.heap.size := by have := hB0.size; omega
        rw [heap_grow_old _ _ (by show k < (mapBlock _ _ _).heap.size; simpa [mapBlock] using hk')]
        show (w.heap.modify g (onCells _))[k]? = _
        rw [Array.getElem?_modify, if_neg (by omega)]
end QSo
end Go.Proofs.YtbcjnckejkjfeaaGreat
