/- The first place of what is greatest, of spots, by whatever function: the walk. Condition: the function answers as told. -/
import Derived.Test.YtbbiefgmlklafaaPCl
import Derived.LoopTactic
namespace Go.Proofs.Ytbbiefgmlklafaa
set_option linter.unusedVariables false
set_option linter.unusedSimpArgs false
open Go.RowKit Go.NP
namespace PGr
theorem cf13 (args : Array Value) (w1 : World) : (callFunc 13 args).run Try.prog w1 = .ok (.enter 13 args) w1 := enters Try.func13 (by kernel_rfl) (by kernel_rfl) args w1
/-- How far a search is: how many have come, the best one's place, its number. -/
structure Best where
  k : Nat
  at_ : Nat
  m : Int
def step (f : Spo → Int) (b : Best) (s : Spo) : Best := if b.k = 0 ∨ b.m < f s then ⟨b.k + 1, b.k, f s⟩ else ⟨b.k + 1, b.at_, b.m⟩
def best (f : Spo → Int) (l : List Spo) : Best := l.foldl (step f) ⟨0, 0, 0⟩
theorem best_snoc (f : Spo → Int) (l : List Spo) (s : Spo) : best f (l ++ [s]) = step f (best f l) s := by simp [best]
theorem step_k (f : Spo → Int) (b : Best) (s : Spo) : (step f b s).k = b.k + 1 := by unfold step; split <;> rfl
theorem fold_k (f : Spo → Int) (l : List Spo) : ∀ b : Best, (l.foldl (step f) b).k = b.k + l.length := by
  induction l with
  | nil => intro b; rfl
  | cons x r ih => intro b; rw [List.foldl_cons, ih, step_k, List.length_cons]; omega
theorem best_k (f : Spo → Int) (l : List Spo) : (best f l).k = l.length := by unfold best; rw [fold_k]; simp
theorem step_yes {f : Spo → Int} {b : Best} {s : Spo} {k : Nat} (hk : b.k = k) (h : k = 0 ∨ b.m < f s) : step f b s = ⟨k + 1, k, f s⟩ := by
  unfold step; rw [hk, if_pos h]
theorem step_no {f : Spo → Int} {b : Best} {s : Spo} {k : Nat} (hk : b.k = k) (h0 : ¬ k = 0) (h : ¬ b.m < f s) : step f b s = ⟨k + 1, b.at_, b.m⟩ := by
  unfold step; rw [hk, if_neg (fun e => e.elim h0 h)]
theorem cmp_pos (x y : Int) : 0 < cmpI x y ↔ y < x := by
  unfold cmpI
  by_cases e : x = y
  · rw [if_pos e]; omega
  · rw [if_neg e]; by_cases h : x < y
    · rw [if_pos h]; omega
    · rw [if_neg h]; omega
theorem best_m (f : Spo → Int) (P : Int → Prop) (h0 : P 0) (l : List Spo) (h : ∀ s ∈ l, P (f s)) : P (best f l).m := by
  have : ∀ (l : List Spo) (b : Best), P b.m → (∀ s ∈ l, P (f s)) → P (l.foldl (step f) b).m := by
    intro l
    induction l with
    | nil => intro b hb _; exact hb
    | cons x r ih =>
      intro b hb h
      rw [List.foldl_cons]
      refine ih _ ?_ fun s hs => h s (List.mem_cons_of_mem _ hs)
      unfold step; split
      · exact h x (List.mem_cons_self ..)
      · exact hb
  exact this l _ h0 h
theorem take_snoc {α : Type} {l : List α} {k : Nat} {x : α} (h : l[k]? = some x) : l.take (k + 1) = l.take k ++ [x] := by
  have hk := PCl.get_lt h
  rw [List.take_succ_eq_append_getElem hk]
  rw [List.getElem?_eq_getElem hk] at h; cases h; rfl
set_option maxRecDepth 100000 in
set_option maxHeartbeats 2000000 in
theorem greatestC (f : Spo → Int) (g : Nat) (lb : Array Value) (cfg : ∀ args w1, (callFunc g args).run Try.prog w1 = .ok (.enter g args) w1) {b off n cap : Nat} {l : List Spo} (w : World) (hb : b < w.heap.size) (hs : SAt w b off l) (hn : l.length = n) (hi : n ≤ 1000000)
    (hf : ∀ s ∈ l, fits (f s)) (hc : ∀ w1, Below w.heap.size w w1 → ∀ s ∈ l, RetB Try.prog g (#[.agg #[.int .i64 s.side, .int .i64 s.at_, .int .i64 s.p.x, .int .i64 s.p.y, .int .i64 s.p.z]] ++ lb) w1 (.agg #[.int .u64 (w8 (f s)).a, .int .u64 (w8 (f s)).b, .int .u64 (w8 (f s)).c, .int .u64 (w8 (f s)).d, .int .u64 (w8 (f s)).e, .int .u64 (w8 (f s)).f, .int .u64 (w8 (f s)).g, .int .u64 (w8 (f s)).h])) :
    RetB Try.prog 17 #[.slice (some ⟨b, off, none⟩) n cap, .func (.func g) #[] lb] w (.int .i64 ((best f l).at_ : Nat)) := by
  have HS := Lib.hid hs; have HN := Lib.hid hn; have HF := Lib.hid hf; have HC := Lib.hid hc
  clear hs hn hf hc
  unfold RetB
  go_enter Try.func17, Try.ntmps17
  go_wp2
  have hR : Box (w.alloc (.cells [.int .u64 0, .int .u64 0, .int .u64 0, .int .u64 0, .int .u64 0, .int .u64 0, .int .u64 0, .int .u64 0].toArray 37)) w.heap.size [.int .u64 (w8 (best f (l.take 0)).m).a, .int .u64 (w8 (best f (l.take 0)).m).b, .int .u64 (w8 (best f (l.take 0)).m).c, .int .u64 (w8 (best f (l.take 0)).m).d, .int .u64 (w8 (best f (l.take 0)).m).e, .int .u64 (w8 (best f (l.take 0)).m).f, .int .u64 (w8 (best f (l.take 0)).m).g, .int .u64 (w8 (best f (l.take 0)).m).h] 37 := (Box.new rfl).cast (by rw [List.take_zero]; exact GAl.ll_zero.symm)
  have hW : Below w.heap.size w (w.alloc (.cells [.int .u64 0, .int .u64 0, .int .u64 0, .int .u64 0, .int .u64 0, .int .u64 0, .int .u64 0, .int .u64 0].toArray 37)) := (Below.refl _ _).alloc (Nat.le_refl _) _
  revert hR hW
  generalize w.alloc (.cells [.int .u64 0, .int .u64 0, .int .u64 0, .int .u64 0, .int .u64 0, .int .u64 0, .int .u64 0, .int .u64 0].toArray 37) = w2
  intro hR hW
  go_loopw [5, 13] (fun bv i wr => ∃ k : Nat, k ≤ n ∧ i = .int .i64 k ∧ bv = .int .i64 ((best f (l.take k)).at_ : Nat) ∧ Box wr w.heap.size [.int .u64 (w8 (best f (l.take k)).m).a, .int .u64 (w8 (best f (l.take k)).m).b, .int .u64 (w8 (best f (l.take k)).m).c, .int .u64 (w8 (best f (l.take k)).m).d, .int .u64 (w8 (best f (l.take k)).m).e, .int .u64 (w8 (best f (l.take k)).m).f, .int .u64 (w8 (best f (l.take k)).m).g, .int .u64 (w8 (best f (l.take k)).m).h] 37 ∧ Below w.heap.size w wr) (fun _ i _ => n - (intOf i).toNat)
  case atStart => exact ⟨0, Nat.zero_le _, rfl, rfl, hR, hW⟩
  case round =>
    clear hR hW w2
    rename_i wr
    obtain ⟨k, hk, rfl, rfl, hR, hW⟩ := hrel
    by_cases hlt : k < n
    · obtain ⟨s, hq⟩ : ∃ s, l[k]? = some s := ⟨_, List.getElem?_eq_getElem (by rw [HN.out]; exact hlt)⟩
      have HQ := Lib.hid hq
      clear hq
      have t1 : decide ((k : Int) < (n : Int)) = true := by simpa using hlt
      iterate 3 go_step
      iterate 1 (with_reducible refine wpL_val (v := ?_) ?_ ?_ ?_; rotate_left; (· kernel_rfl); (· go_simp; try with_reducible rfl); conv => arg 5; simp only [Act.put, List.setIfInBounds_toArray, List.set_cons_zero, List.set_cons_succ])
      refine wpList_nil ?_
      iterate 11 go_step
      iterate 2 (with_reducible refine wpL_val (v := ?_) ?_ ?_ ?_; rotate_left; (· kernel_rfl); (· go_simp; try with_reducible rfl); conv => arg 5; simp only [Act.put, List.setIfInBounds_toArray, List.set_cons_zero, List.set_cons_succ])
      have hsm := List.mem_of_getElem? HQ.out
      refine wpL_at (l := [.int .i64 s.side, .int .i64 s.at_, .int .i64 s.p.x, .int .i64 s.p.y, .int .i64 s.p.z]) (by rfl) (by rfl) (HS.out.step hb hW k s HQ.out) Try.underlying32 (by rfl) (by kernel_rfl) (by kernel_rfl) ?_
      conv => arg 5; simp only [Act.put, List.setIfInBounds_toArray, List.set_cons_zero, List.set_cons_succ]
      refine wpL_go (v := .pointer (some ⟨wr.heap.size, 0, none⟩)) (w' := wr.alloc (.cells [.int .i64 0, .int .i64 0, .int .i64 0, .int .i64 0, .int .i64 0].toArray 32)) (by kernel_rfl) (by go_simp) ?_
      conv => arg 5; simp only [Act.put, List.setIfInBounds_toArray, List.set_cons_zero, List.set_cons_succ]
      iterate 1 (with_reducible refine wpL_val (v := ?_) ?_ ?_ ?_; rotate_left; (· kernel_rfl); (· go_simp; try with_reducible rfl); conv => arg 5; simp only [Act.put, List.setIfInBounds_toArray, List.set_cons_zero, List.set_cons_succ])
      refine wpL_store (cs := [.int .i64 s.side, .int .i64 s.at_, .int .i64 s.p.x, .int .i64 s.p.y, .int .i64 s.p.z]) (by rfl) (by rfl) (by rfl) (Box.new rfl) (by kernel_rfl) (by rfl) (by simp [Value.oneCell']) (by kernel_rfl) ?_
      conv => arg 5; simp only [Act.put, List.setIfInBounds_toArray, List.set_cons_zero, List.set_cons_succ]
      rw [alloc_setRow]
      refine wpList_nil ?_
      have hX : Box (wr.alloc (.cells [.int .i64 s.side, .int .i64 s.at_, .int .i64 s.p.x, .int .i64 s.p.y, .int .i64 s.p.z].toArray 32)) wr.heap.size [.int .i64 s.side, .int .i64 s.at_, .int .i64 s.p.x, .int .i64 s.p.y, .int .i64 s.p.z] 32 := Box.new rfl
      have hR1 := hR.alloc (.cells [.int .i64 s.side, .int .i64 s.at_, .int .i64 s.p.x, .int .i64 s.p.y, .int .i64 s.p.z].toArray 32)
      have hW1 := hW.alloc hW.size (.cells [.int .i64 s.side, .int .i64 s.at_, .int .i64 s.p.x, .int .i64 s.p.y, .int .i64 s.p.z].toArray 32)
      revert hX hR1 hW1
      generalize wr.alloc (.cells [.int .i64 s.side, .int .i64 s.at_, .int .i64 s.p.x, .int .i64 s.p.y, .int .i64 s.p.z].toArray 32) = wa
      generalize wr.heap.size = gx
      intro hX hR1 hW1
      iterate 4 go_step
      iterate 1 (with_reducible refine wpL_val (v := ?_) ?_ ?_ ?_; rotate_left; (· kernel_rfl); (· go_simp; try with_reducible rfl); conv => arg 5; simp only [Act.put, List.setIfInBounds_toArray, List.set_cons_zero, List.set_cons_succ])
      refine wpL_load (l := [.int .i64 s.side, .int .i64 s.at_, .int .i64 s.p.x, .int .i64 s.p.y, .int .i64 s.p.z]) (by rfl) (by rfl) hX Try.underlying32 (by rfl) (by kernel_rfl) (by kernel_rfl) ?_
      conv => arg 5; simp only [Act.put, List.setIfInBounds_toArray, List.set_cons_zero, List.set_cons_succ]
      with_reducible refine wpL_call (ca := ?_) (args := ?_) ?_ ?_ cfg ?_ ?_
      rotate_left 2
      · kernel_rfl
      · rfl
      · simp [Act.eval] <;> rfl
      refine (HC.out _ hW1 s hsm).mono ?_
      rintro e wb ⟨rfl, hS⟩
      refine ⟨_, rfl, ?_⟩
      conv => arg 5; simp only [Act.put, List.setIfInBounds_toArray, List.set_cons_zero, List.set_cons_succ]
      have hR1 := hR1.step hS
      have hW1 := hW1.trans (hS.mono hW1.size)
      refine wpL_go (v := .pointer (some ⟨wb.heap.size, 0, none⟩)) (w' := wb.alloc (.cells [.int .u64 0, .int .u64 0, .int .u64 0, .int .u64 0, .int .u64 0, .int .u64 0, .int .u64 0, .int .u64 0].toArray 37)) (by kernel_rfl) (by go_simp) ?_
      conv => arg 5; simp only [Act.put, List.setIfInBounds_toArray, List.set_cons_zero, List.set_cons_succ]
      refine wpL_store (cs := [.int .u64 (w8 (f s)).a, .int .u64 (w8 (f s)).b, .int .u64 (w8 (f s)).c, .int .u64 (w8 (f s)).d, .int .u64 (w8 (f s)).e, .int .u64 (w8 (f s)).f, .int .u64 (w8 (f s)).g, .int .u64 (w8 (f s)).h]) (by rfl) (by rfl) (by rfl) (Box.new rfl) (by kernel_rfl) (by rfl) (by simp [Value.oneCell']) (by kernel_rfl) ?_
      conv => arg 5; simp only [Act.put, List.setIfInBounds_toArray, List.set_cons_zero, List.set_cons_succ]
      rw [alloc_setRow]
      refine wpList_nil ?_
      have hN : Box (wb.alloc (.cells [.int .u64 (w8 (f s)).a, .int .u64 (w8 (f s)).b, .int .u64 (w8 (f s)).c, .int .u64 (w8 (f s)).d, .int .u64 (w8 (f s)).e, .int .u64 (w8 (f s)).f, .int .u64 (w8 (f s)).g, .int .u64 (w8 (f s)).h].toArray 37)) wb.heap.size [.int .u64 (w8 (f s)).a, .int .u64 (w8 (f s)).b, .int .u64 (w8 (f s)).c, .int .u64 (w8 (f s)).d, .int .u64 (w8 (f s)).e, .int .u64 (w8 (f s)).f, .int .u64 (w8 (f s)).g, .int .u64 (w8 (f s)).h] 37 := Box.new rfl
      have hR1 := hR1.alloc (.cells [.int .u64 (w8 (f s)).a, .int .u64 (w8 (f s)).b, .int .u64 (w8 (f s)).c, .int .u64 (w8 (f s)).d, .int .u64 (w8 (f s)).e, .int .u64 (w8 (f s)).f, .int .u64 (w8 (f s)).g, .int .u64 (w8 (f s)).h].toArray 37)
      have hW1 := hW1.alloc hW1.size (.cells [.int .u64 (w8 (f s)).a, .int .u64 (w8 (f s)).b, .int .u64 (w8 (f s)).c, .int .u64 (w8 (f s)).d, .int .u64 (w8 (f s)).e, .int .u64 (w8 (f s)).f, .int .u64 (w8 (f s)).g, .int .u64 (w8 (f s)).h].toArray 37)
      clear hX hS
      revert hN hR1 hW1
      generalize wb.alloc (.cells [.int .u64 (w8 (f s)).a, .int .u64 (w8 (f s)).b, .int .u64 (w8 (f s)).c, .int .u64 (w8 (f s)).d, .int .u64 (w8 (f s)).e, .int .u64 (w8 (f s)).f, .int .u64 (w8 (f s)).g, .int .u64 (w8 (f s)).h].toArray 37) = wx
      generalize wb.heap.size = gn
      intro hN hR1 hW1
      have hst : best f (l.take (k + 1)) = step f (best f (l.take k)) s := by rw [take_snoc HQ.out, best_snoc]
      have hbk : (best f (l.take k)).k = k := by rw [best_k, List.length_take]; have := HN.out; omega
      have HST := Lib.hid hst; have HBK := Lib.hid hbk
      clear hst hbk
      iterate 4 go_step
      by_cases hk0 : k = 0
      · have e0 : ((k : Int) == 0) = true := by simp [hk0]
        have hup : best f (l.take (k + 1)) = ⟨k + 1, k, f s⟩ := by rw [HST.out, step_yes HBK.out (.inl hk0)]
        have HUP := Lib.hid hup
        clear hk0 hup
        iterate 3 (with_reducible refine wpL_val (v := ?_) ?_ ?_ ?_; rotate_left; (· kernel_rfl); (· go_simp; try with_reducible rfl); conv => arg 5; simp only [Act.put, List.setIfInBounds_toArray, List.set_cons_zero, List.set_cons_succ])
        iterate 4 (with_reducible refine wpL_skip ?_ ?_; (· kernel_rfl); conv => arg 5; simp only [Act.put, List.setIfInBounds_toArray, List.set_cons_zero, List.set_cons_succ])
        iterate 1 (with_reducible refine wpL_val (v := ?_) ?_ ?_ ?_; rotate_left; (· kernel_rfl); (· go_simp; try with_reducible rfl); conv => arg 5; simp only [Act.put, List.setIfInBounds_toArray, List.set_cons_zero, List.set_cons_succ])
        refine wpList_nil ?_
        iterate 3 go_step
        refine wp_region_ph [(3, .free [])] (by kernel_rfl) (by kernel_rfl) ?_
        refine Ph.belowd ?_
        simp only [List.drop_succ_cons, List.drop_zero, List.take_succ_cons, List.take_zero, Nat.reduceSub, Nat.sub_zero]
        iterate 1 (refine SeqO.val (v := ?_) (by rfl) (by rfl) (fun w1 hS => ?_) ?_; rotate_left; (· obtain ⟨hc, hcf⟩ := bcell hS; go_simp; try with_reducible rfl); simp only [Act.put, List.setIfInBounds_toArray, List.set_cons_zero, List.set_cons_succ])
        refine SeqO.row (l := [.int .u64 (w8 (f s)).a, .int .u64 (w8 (f s)).b, .int .u64 (w8 (f s)).c, .int .u64 (w8 (f s)).d, .int .u64 (w8 (f s)).e, .int .u64 (w8 (f s)).f, .int .u64 (w8 (f s)).g, .int .u64 (w8 (f s)).h]) (by rfl) (by rfl) hN Try.underlying37 (by rfl) (by kernel_rfl) (by rfl) (by rfl) ?_
        simp only [Act.put, List.setIfInBounds_toArray, List.set_cons_zero, List.set_cons_succ]
        iterate 1 (refine SeqO.val (v := ?_) (by rfl) (by rfl) (fun w1 hS => ?_) ?_; rotate_left; (· obtain ⟨hc, hcf⟩ := bcell hS; go_simp; try with_reducible rfl); simp only [Act.put, List.setIfInBounds_toArray, List.set_cons_zero, List.set_cons_succ])
        refine SeqO.nil0 fun wy hS => ?_
        refine Ph.last ?_
        simp only [List.drop_succ_cons, List.drop_zero, List.take_succ_cons, List.take_zero, Nat.reduceSub, Nat.sub_zero]
        have hR2 := hR1.step hS
        have hW2 := hW1.trans (hS.mono hW1.size)
        refine wpL_store (cs := [.int .u64 (w8 (f s)).a, .int .u64 (w8 (f s)).b, .int .u64 (w8 (f s)).c, .int .u64 (w8 (f s)).d, .int .u64 (w8 (f s)).e, .int .u64 (w8 (f s)).f, .int .u64 (w8 (f s)).g, .int .u64 (w8 (f s)).h]) (by rfl) (by rfl) (by rfl) hR2 (by kernel_rfl) (by rfl) (by simp [Value.oneCell']) (by kernel_rfl) ?_
        conv => arg 5; simp only [Act.put, List.setIfInBounds_toArray, List.set_cons_zero, List.set_cons_succ]
        have hR3 := hR2.row [.int .u64 (w8 (f s)).a, .int .u64 (w8 (f s)).b, .int .u64 (w8 (f s)).c, .int .u64 (w8 (f s)).d, .int .u64 (w8 (f s)).e, .int .u64 (w8 (f s)).f, .int .u64 (w8 (f s)).g, .int .u64 (w8 (f s)).h]
        have hW3 := below_setRow hW2 (g := w.heap.size) (by omega) [.int .u64 (w8 (f s)).a, .int .u64 (w8 (f s)).b, .int .u64 (w8 (f s)).c, .int .u64 (w8 (f s)).d, .int .u64 (w8 (f s)).e, .int .u64 (w8 (f s)).f, .int .u64 (w8 (f s)).g, .int .u64 (w8 (f s)).h].toArray
        have HE := Lib.hid HUP.out
        clear hR hR1 hR2 hW hW1 hW2 hN hS
        refine wpList_nil ?_
        go_wp2
        go_roundw
        case rel => exact ⟨k + 1, by omega, by go_num, by rw [HE.out], by rw [HE.out]; exact hR3, hW3⟩
        case measure => simp [intOf]; omega
      · have e0 : ((k : Int) == 0) = false := by simp; omega
        have F1 := HF.out s hsm
        have F2 : fits (best f (l.take k)).m := best_m f fits (WidB.half_fits (by unfold WidB.half; omega)) _ fun s hs => HF.out s (List.mem_of_mem_take hs)
        have HQQ := Lib.hid (cmp_pos (f s) (best f (l.take k)).m)
        have HUP := Lib.hid (fun h : (best f (l.take k)).m < f s => show best f (l.take (k + 1)) = ⟨k + 1, k, f s⟩ by rw [HST.out, step_yes HBK.out (.inr h)])
        have HNO := Lib.hid (fun h : ¬ (best f (l.take k)).m < f s => show best f (l.take (k + 1)) = ⟨k + 1, (best f (l.take k)).at_, (best f (l.take k)).m⟩ by rw [HST.out, step_no HBK.out hk0 h])
        clear hk0
        iterate 3 (with_reducible refine wpL_val (v := ?_) ?_ ?_ ?_; rotate_left; (· kernel_rfl); (· go_simp; try with_reducible rfl); conv => arg 5; simp only [Act.put, List.setIfInBounds_toArray, List.set_cons_zero, List.set_cons_succ])
        refine wpL_load (l := [.int .u64 (w8 (f s)).a, .int .u64 (w8 (f s)).b, .int .u64 (w8 (f s)).c, .int .u64 (w8 (f s)).d, .int .u64 (w8 (f s)).e, .int .u64 (w8 (f s)).f, .int .u64 (w8 (f s)).g, .int .u64 (w8 (f s)).h]) (by rfl) (by rfl) hN Try.underlying37 (by rfl) (by kernel_rfl) (by kernel_rfl) ?_
        conv => arg 5; simp only [Act.put, List.setIfInBounds_toArray, List.set_cons_zero, List.set_cons_succ]
        refine wpL_load (l := [.int .u64 (w8 (best f (l.take k)).m).a, .int .u64 (w8 (best f (l.take k)).m).b, .int .u64 (w8 (best f (l.take k)).m).c, .int .u64 (w8 (best f (l.take k)).m).d, .int .u64 (w8 (best f (l.take k)).m).e, .int .u64 (w8 (best f (l.take k)).m).f, .int .u64 (w8 (best f (l.take k)).m).g, .int .u64 (w8 (best f (l.take k)).m).h]) (by rfl) (by rfl) hR1 Try.underlying37 (by rfl) (by kernel_rfl) (by kernel_rfl) ?_
        conv => arg 5; simp only [Act.put, List.setIfInBounds_toArray, List.set_cons_zero, List.set_cons_succ]
        with_reducible refine wpL_call (ca := ?_) (args := ?_) ?_ ?_ cf13 ?_ ?_
        rotate_left 2
        · kernel_rfl
        · rfl
        · simp [Act.eval] <;> rfl
        refine (WidA.cmpW F1 F2 _).mono ?_
        rintro e wx ⟨rfl, hS⟩
        refine ⟨_, rfl, ?_⟩
        conv => arg 5; simp only [Act.put, List.setIfInBounds_toArray, List.set_cons_zero, List.set_cons_succ]
        have hN := hN.step hS; have hR1 := hR1.step hS; have hW1 := hW1.trans (hS.mono hW1.size)
        clear hS
        generalize cmpI (f s) (best f (l.take k)).m = q at *
        iterate 2 (with_reducible refine wpL_val (v := ?_) ?_ ?_ ?_; rotate_left; (· kernel_rfl); (· go_simp; try with_reducible rfl); conv => arg 5; simp only [Act.put, List.setIfInBounds_toArray, List.set_cons_zero, List.set_cons_succ])
        refine wpList_nil ?_
        iterate 3 go_step
        · skip
          refine wp_region_ph [(3, .free [])] (by kernel_rfl) (by kernel_rfl) ?_
          refine Ph.belowd ?_
          simp only [List.drop_succ_cons, List.drop_zero, List.take_succ_cons, List.take_zero, Nat.reduceSub, Nat.sub_zero]
          iterate 1 (refine SeqO.val (v := ?_) (by rfl) (by rfl) (fun w1 hS => ?_) ?_; rotate_left; (· obtain ⟨hc, hcf⟩ := bcell hS; go_simp; try with_reducible rfl); simp only [Act.put, List.setIfInBounds_toArray, List.set_cons_zero, List.set_cons_succ])
          refine SeqO.row (l := [.int .u64 (w8 (f s)).a, .int .u64 (w8 (f s)).b, .int .u64 (w8 (f s)).c, .int .u64 (w8 (f s)).d, .int .u64 (w8 (f s)).e, .int .u64 (w8 (f s)).f, .int .u64 (w8 (f s)).g, .int .u64 (w8 (f s)).h]) (by rfl) (by rfl) hN Try.underlying37 (by rfl) (by kernel_rfl) (by rfl) (by rfl) ?_
          simp only [Act.put, List.setIfInBounds_toArray, List.set_cons_zero, List.set_cons_succ]
          iterate 1 (refine SeqO.val (v := ?_) (by rfl) (by rfl) (fun w1 hS => ?_) ?_; rotate_left; (· obtain ⟨hc, hcf⟩ := bcell hS; go_simp; try with_reducible rfl); simp only [Act.put, List.setIfInBounds_toArray, List.set_cons_zero, List.set_cons_succ])
          refine SeqO.nil0 fun wy hS => ?_
          refine Ph.last ?_
          simp only [List.drop_succ_cons, List.drop_zero, List.take_succ_cons, List.take_zero, Nat.reduceSub, Nat.sub_zero]
          have hR2 := hR1.step hS
          have hW2 := hW1.trans (hS.mono hW1.size)
          refine wpL_store (cs := [.int .u64 (w8 (f s)).a, .int .u64 (w8 (f s)).b, .int .u64 (w8 (f s)).c, .int .u64 (w8 (f s)).d, .int .u64 (w8 (f s)).e, .int .u64 (w8 (f s)).f, .int .u64 (w8 (f s)).g, .int .u64 (w8 (f s)).h]) (by rfl) (by rfl) (by rfl) hR2 (by kernel_rfl) (by rfl) (by simp [Value.oneCell']) (by kernel_rfl) ?_
          conv => arg 5; simp only [Act.put, List.setIfInBounds_toArray, List.set_cons_zero, List.set_cons_succ]
          have hR3 := hR2.row [.int .u64 (w8 (f s)).a, .int .u64 (w8 (f s)).b, .int .u64 (w8 (f s)).c, .int .u64 (w8 (f s)).d, .int .u64 (w8 (f s)).e, .int .u64 (w8 (f s)).f, .int .u64 (w8 (f s)).g, .int .u64 (w8 (f s)).h]
          have hW3 := below_setRow hW2 (g := w.heap.size) (by omega) [.int .u64 (w8 (f s)).a, .int .u64 (w8 (f s)).b, .int .u64 (w8 (f s)).c, .int .u64 (w8 (f s)).d, .int .u64 (w8 (f s)).e, .int .u64 (w8 (f s)).f, .int .u64 (w8 (f s)).g, .int .u64 (w8 (f s)).h].toArray
          have HE := Lib.hid (HUP.out (HQQ.out.1 (by assumption)))
          clear hR hR1 hR2 hW hW1 hW2 hN hS
          refine wpList_nil ?_
          go_wp2
          go_roundw
          case rel => exact ⟨k + 1, by omega, by go_num, by rw [HE.out], by rw [HE.out]; exact hR3, hW3⟩
          case measure => simp [intOf]; omega
        · have HE := Lib.hid (HNO.out (fun h => (by have := HQQ.out.2 h; omega)))
          clear hR hW hN
          go_wp2
          go_roundw
          case rel => exact ⟨k + 1, by omega, by go_num, by rw [HE.out], by rw [HE.out]; exact hR1, hW1⟩
          case measure => simp [intOf]; omega
    · obtain rfl : k = n := by omega
      have htk : l.take k = l := List.take_of_length_le (by rw [HN.out]; exact Nat.le_refl _)
      have HT := Lib.hid htk
      clear htk
      go_wp2
      go_ret
      exact ⟨by rw [HT.out]; rfl, hW⟩
end PGr
end Go.Proofs.Ytbbiefgmlklafaa
