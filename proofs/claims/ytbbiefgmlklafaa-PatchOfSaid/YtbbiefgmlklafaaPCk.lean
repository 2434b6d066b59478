/- May spots be: the walk. Condition: the slice's cells are as told. -/
import Derived.Test.YtbbiefgmlklafaaPGr
import Derived.Test.YtbbiefgmlklafaaPMap
import Derived.Test.YtbbiefgmlklafaaGCk
namespace Go.Proofs.Ytbbiefgmlklafaa
set_option linter.unusedVariables false
set_option linter.unusedSimpArgs false
open Go.RowKit Go.NP
open Go.ChangeMaps (setBlock)
/-- A slice of spots. -/
def SlS (w : World) (A : Option Addr) (n : Nat) (l : List Spo) : Prop := l.length = n ∧ (0 < n → ∃ b off, A = some ⟨b, off, none⟩ ∧ b < w.heap.size ∧ SAt w b off l)
theorem SlS.step {w w' : World} {A : Option Addr} {n : Nat} {l : List Spo} (h : SlS w A n l) (hS : Below w.heap.size w w') : SlS w' A n l :=
  ⟨h.1, fun hn => by obtain ⟨b, off, h1, h2, h3⟩ := h.2 hn; exact ⟨b, off, h1, by have := hS.size; omega, h3.step h2 hS⟩⟩
namespace PCk
theorem cf14 (args : Array Value) (w1 : World) : (callFunc 14 args).run Try.prog w1 = .ok (.enter 14 args) w1 := enters Try.func14 (by kernel_rfl) (by kernel_rfl) args w1
def nmS (s : Spo) : Int × Int := (s.side, s.at_)
def okS (s : Spo) : Prop := 1 ≤ s.side ∧ s.side ≤ 3 ∧ 0 ≤ s.at_ ∧ s.at_ ≤ 256
instance (s : Spo) : Decidable (okS s) := by unfold okS; infer_instance
/-- All may be, as far as their names go. -/
def named (l : List Spo) : Prop := (∀ s ∈ l, okS s) ∧ (l.map nmS).Nodup
instance (l : List Spo) : Decidable (named l) := by unfold named; infer_instance
theorem named_nil : named [] := ⟨fun s hs => (by cases hs), List.nodup_nil⟩
def checkS (l : List Spo) : Int := if 256 < l.length then 3 else if named l then (if ∀ s ∈ l, s.p.ok then 0 else 7) else 2
theorem named_snoc {l : List Spo} {k : Nat} {s : Spo} (h : l[k]? = some s) (hn : named (l.take k)) (ho : okS s) (hb : nmS s ∉ (l.take k).map nmS) : named (l.take (k + 1)) := by
  rw [PGr.take_snoc h]
  refine ⟨fun x hx => ?_, ?_⟩
  · rcases List.mem_append.1 hx with hx | hx
    · exact hn.1 x hx
    · obtain rfl := List.mem_singleton.1 hx; exact ho
  · rw [List.map_append, List.nodup_append]
    refine ⟨hn.2, by simp, fun a ha b hbm e => ?_⟩
    simp only [List.map_cons, List.map_nil, List.mem_singleton] at hbm
    subst hbm; subst e; exact hb ha
theorem twice {l : List Spo} {k : Nat} {s : Spo} (h : l[k]? = some s) (hb : nmS s ∈ (l.take k).map nmS) : ¬ named l := fun hn => by
  have hk := PCl.get_lt h
  have e : l.map nmS = (l.take k).map nmS ++ ((l.drop k).map nmS) := by rw [← List.map_append, List.take_append_drop]
  have hnd := hn.2
  rw [e, List.nodup_append] at hnd
  have hm : nmS s ∈ (l.drop k).map nmS := by
    refine List.mem_map.2 ⟨s, ?_, rfl⟩
    rw [List.drop_eq_getElem_cons hk]
    rw [List.getElem?_eq_getElem hk] at h
    cases h
    exact List.mem_cons_self ..
  exact hnd.2.2 _ hb _ hm rfl
theorem bad {l : List Spo} {k : Nat} {s : Spo} (h : l[k]? = some s) (hb : ¬ okS s) : ¬ named l := fun hn => hb (hn.1 s (List.mem_of_getElem? h))
set_option maxRecDepth 100000 in
set_option maxHeartbeats 2000000 in
theorem checkA {b off n cap : Nat} {l : List Spo} (w : World) (hb : b < w.heap.size) (hs : SAt w b off l) (hn : l.length = n) (h0 : 0 < n) (hi : n ≤ 256) :
    RetB Try.prog 10 #[.slice (some ⟨b, off, none⟩) n cap] w (.int .i64 (checkS l)) := by
  have HS := Lib.hid hs; have HN := Lib.hid hn
  have hcs : checkS l = if named l then (if ∀ s ∈ l, s.p.ok then 0 else 7) else 2 := by unfold checkS; rw [if_neg (by omega)]
  have HCS := Lib.hid hcs
  have t0 : decide ((256 : Int) < (n : Int)) = false := decide_eq_false (by omega)
  clear hs hn hcs
  have hmm := @run_makeMap Try.prog
  unfold RetB
  go_enter Try.func10, Try.ntmps10
  go_wp2
  have hM : (w.alloc (.map #[] 0)).heap[w.heap.size]? = some (.map (PMap.ents ((l.take 0).map nmS)).toArray 0) := by rw [List.take_zero]; exact World.alloc_heap_new w _
  have hW : Below w.heap.size w (w.alloc (.map #[] 0)) := (Below.refl _ _).alloc (Nat.le_refl _) _
  revert hM hW
  generalize w.alloc (.map #[] 0) = w2
  intro hM hW
  go_loopw [15] (fun i wr => ∃ k : Nat, k ≤ n ∧ i = .int .i64 k ∧ named (l.take k) ∧ wr.heap[w.heap.size]? = some (.map (PMap.ents ((l.take k).map nmS)).toArray k) ∧ Below w.heap.size w wr) (fun i _ => n - (intOf i).toNat)
  case atStart => exact ⟨0, Nat.zero_le _, rfl, by rw [List.take_zero]; exact named_nil, hM, hW⟩
  case round =>
    clear hM hW w2
    rename_i wr
    obtain ⟨k, hk, rfl, hnm, hM, hW⟩ := hrel
    by_cases hlt : k < n
    · obtain ⟨s, hq⟩ : ∃ s, l[k]? = some s := ⟨_, List.getElem?_eq_getElem (by rw [HN.out]; exact hlt)⟩
      have HQ := Lib.hid hq; have HNM := Lib.hid hnm; have HM := Lib.hid hM
      clear hq hnm hM
      have t1 : decide ((k : Int) < (n : Int)) = true := by simpa using hlt
      have hbw : b < wr.heap.size := by have := hW.size; omega
      iterate 3 go_step
      iterate 1 (with_reducible refine wpL_val (v := ?_) ?_ ?_ ?_; rotate_left; (· kernel_rfl); (· go_simp; try with_reducible rfl); conv => arg 5; simp only [Act.put, List.setIfInBounds_toArray, List.set_cons_zero, List.set_cons_succ])
      refine wpList_nil ?_
      iterate 11 go_step
      iterate 1 (with_reducible refine wpL_val (v := ?_) ?_ ?_ ?_; rotate_left; (· kernel_rfl); (· go_simp; try with_reducible rfl); conv => arg 5; simp only [Act.put, List.setIfInBounds_toArray, List.set_cons_zero, List.set_cons_succ])
      refine wpL_at (l := [.int .i64 s.side, .int .i64 s.at_, .int .i64 s.p.x, .int .i64 s.p.y, .int .i64 s.p.z]) (by rfl) (by rfl) (HS.out.step hb hW k s HQ.out) Try.underlying32 (by rfl) (by kernel_rfl) (by kernel_rfl) ?_
      conv => arg 5; simp only [Act.put, List.setIfInBounds_toArray, List.set_cons_zero, List.set_cons_succ]
      refine wpL_go (v := .pointer (some ⟨wr.heap.size, 0, none⟩)) (w' := wr.alloc (.cells [.int .i64 0, .int .i64 0, .int .i64 0, .int .i64 0, .int .i64 0].toArray 32)) (by kernel_rfl) (by go_simp) ?_
      conv => arg 5; simp only [Act.put, List.setIfInBounds_toArray, List.set_cons_zero, List.set_cons_succ]
      refine wpL_store (cs := [.int .i64 s.side, .int .i64 s.at_, .int .i64 s.p.x, .int .i64 s.p.y, .int .i64 s.p.z]) (by rfl) (by rfl) (by rfl) (Box.new rfl) (by kernel_rfl) (by rfl) (by simp [Value.oneCell']) (by kernel_rfl) ?_
      conv => arg 5; simp only [Act.put, List.setIfInBounds_toArray, List.set_cons_zero, List.set_cons_succ]
      rw [alloc_setRow]
      refine wpList_nil ?_
      have hX : Box (wr.alloc (.cells [.int .i64 s.side, .int .i64 s.at_, .int .i64 s.p.x, .int .i64 s.p.y, .int .i64 s.p.z].toArray 32)) wr.heap.size [.int .i64 s.side, .int .i64 s.at_, .int .i64 s.p.x, .int .i64 s.p.y, .int .i64 s.p.z] 32 := Box.new rfl
      have hM1 := Lib.hid ((Below.heap_alloc wr (.cells [.int .i64 s.side, .int .i64 s.at_, .int .i64 s.p.x, .int .i64 s.p.y, .int .i64 s.p.z].toArray 32) w.heap.size (by have := (Array.getElem?_eq_some_iff.1 HM.out).1; exact this)).trans HM.out)
      have hW1 := hW.alloc hW.size (.cells [.int .i64 s.side, .int .i64 s.at_, .int .i64 s.p.x, .int .i64 s.p.y, .int .i64 s.p.z].toArray 32)
      revert hX hM1 hW1
      generalize wr.alloc (.cells [.int .i64 s.side, .int .i64 s.at_, .int .i64 s.p.x, .int .i64 s.p.y, .int .i64 s.p.z].toArray 32) = wa
      generalize wr.heap.size = gx
      intro hX hM1 hW1
      have x0 := (hX).cell 0; have x1 := (hX).cell 1; have x2 := (hX).cell 2; have x3 := (hX).cell 3; have x4 := (hX).cell 4; have xf := (hX).free
      simp only [List.getElem?_cons_zero, List.getElem?_cons_succ] at x0 x1 x2 x3 x4
      have hxl := hX.lt
      iterate 4 go_step
      iterate 5 (with_reducible refine wpL_val (v := ?_) ?_ ?_ ?_; rotate_left; (· kernel_rfl); (· go_simp; try with_reducible rfl); conv => arg 5; simp only [Act.put, List.setIfInBounds_toArray, List.set_cons_zero, List.set_cons_succ])
      refine wpL_go (v := .pointer (some ⟨wa.heap.size, 0, none⟩)) (w' := wa.alloc (.cells [.int .i64 0, .int .i64 0].toArray 58)) (by kernel_rfl) (by go_simp) ?_
      conv => arg 5; simp only [Act.put, List.setIfInBounds_toArray, List.set_cons_zero, List.set_cons_succ]
      refine wpL_store (cs := [.int .i64 s.side, .int .i64 s.at_]) (by rfl) (by rfl) (by rfl) (Box.new rfl) (by kernel_rfl) (by rfl) (by simp [Value.oneCell']) (by kernel_rfl) ?_
      conv => arg 5; simp only [Act.put, List.setIfInBounds_toArray, List.set_cons_zero, List.set_cons_succ]
      rw [alloc_setRow]
      refine wpList_nil ?_
      have hX := hX.alloc (.cells [.int .i64 s.side, .int .i64 s.at_].toArray 58)
      have hY : Box (wa.alloc (.cells [.int .i64 s.side, .int .i64 s.at_].toArray 58)) wa.heap.size [.int .i64 s.side, .int .i64 s.at_] 58 := Box.new rfl
      have hM0 := hM1
      have hM1 := Lib.hid ((Below.heap_alloc wa (.cells [.int .i64 s.side, .int .i64 s.at_].toArray 58) w.heap.size (by have := (Array.getElem?_eq_some_iff.1 hM1.out).1; exact this)).trans hM1.out)
      have hW1 := hW1.alloc hW1.size (.cells [.int .i64 s.side, .int .i64 s.at_].toArray 58)
      clear x0 x1 x2 x3 x4 xf
      have hgw : w.heap.size < wa.heap.size := by have := (Array.getElem?_eq_some_iff.1 hM0.out).1; exact this
      clear hxl hM0
      revert hX hY hM1 hW1 hgw
      generalize wa.alloc (.cells [.int .i64 s.side, .int .i64 s.at_].toArray 58) = wx
      generalize wa.heap.size = gy
      intro hX hY hM1 hW1 hgw
      have x0 := (hX).cell 0; have x1 := (hX).cell 1; have x2 := (hX).cell 2; have x3 := (hX).cell 3; have x4 := (hX).cell 4; have xf := (hX).free
      simp only [List.getElem?_cons_zero, List.getElem?_cons_succ] at x0 x1 x2 x3 x4
      have hxl := hX.lt
      iterate 5 go_step
      by_cases c1 : s.side < 1
      · have d1 : decide (s.side < 1) = true := decide_eq_true c1
        have hno : checkS l = 2 := by rw [HCS.out, if_neg (bad HQ.out (fun h => (by have h1 := h.1; have h2 := h.2.1; have h3 := h.2.2.1; have h4 := h.2.2.2; omega)))]
        have HNO := Lib.hid hno
        clear c1 hno
        iterate 4 (with_reducible refine wpL_val (v := ?_) ?_ ?_ ?_; rotate_left; (· kernel_rfl); (· go_simp; try with_reducible rfl); conv => arg 5; simp only [Act.put, List.setIfInBounds_toArray, List.set_cons_zero, List.set_cons_succ])
        iterate 3 (with_reducible refine wpL_skip ?_ ?_; (· kernel_rfl); conv => arg 5; simp only [Act.put, List.setIfInBounds_toArray, List.set_cons_zero, List.set_cons_succ])
        iterate 2 (with_reducible refine wpL_val (v := ?_) ?_ ?_ ?_; rotate_left; (· kernel_rfl); (· go_simp; try with_reducible rfl); conv => arg 5; simp only [Act.put, List.setIfInBounds_toArray, List.set_cons_zero, List.set_cons_succ])
        iterate 3 (with_reducible refine wpL_skip ?_ ?_; (· kernel_rfl); conv => arg 5; simp only [Act.put, List.setIfInBounds_toArray, List.set_cons_zero, List.set_cons_succ])
        iterate 2 (with_reducible refine wpL_val (v := ?_) ?_ ?_ ?_; rotate_left; (· kernel_rfl); (· go_simp; try with_reducible rfl); conv => arg 5; simp only [Act.put, List.setIfInBounds_toArray, List.set_cons_zero, List.set_cons_succ])
        iterate 3 (with_reducible refine wpL_skip ?_ ?_; (· kernel_rfl); conv => arg 5; simp only [Act.put, List.setIfInBounds_toArray, List.set_cons_zero, List.set_cons_succ])
        iterate 2 (with_reducible refine wpL_val (v := ?_) ?_ ?_ ?_; rotate_left; (· kernel_rfl); (· go_simp; try with_reducible rfl); conv => arg 5; simp only [Act.put, List.setIfInBounds_toArray, List.set_cons_zero, List.set_cons_succ])
        iterate 4 (with_reducible refine wpL_skip ?_ ?_; (· kernel_rfl); conv => arg 5; simp only [Act.put, List.setIfInBounds_toArray, List.set_cons_zero, List.set_cons_succ])
        iterate 1 (with_reducible refine wpL_val (v := ?_) ?_ ?_ ?_; rotate_left; (· kernel_rfl); (· go_simp; try with_reducible rfl); conv => arg 5; simp only [Act.put, List.setIfInBounds_toArray, List.set_cons_zero, List.set_cons_succ])
        refine wpList_nil ?_
        go_wp2
        go_ret
        exact ⟨by rw [HNO.out]; rfl, hW1⟩
      have d1 : decide (s.side < 1) = false := decide_eq_false c1
      by_cases c2 : 3 < s.side
      · have d2 : decide (3 < s.side) = true := decide_eq_true c2
        have hno : checkS l = 2 := by rw [HCS.out, if_neg (bad HQ.out (fun h => (by have h1 := h.1; have h2 := h.2.1; have h3 := h.2.2.1; have h4 := h.2.2.2; omega)))]
        have HNO := Lib.hid hno
        clear c1 c2 hno
        iterate 9 (with_reducible refine wpL_val (v := ?_) ?_ ?_ ?_; rotate_left; (· kernel_rfl); (· go_simp; try with_reducible rfl); conv => arg 5; simp only [Act.put, List.setIfInBounds_toArray, List.set_cons_zero, List.set_cons_succ])
        iterate 3 (with_reducible refine wpL_skip ?_ ?_; (· kernel_rfl); conv => arg 5; simp only [Act.put, List.setIfInBounds_toArray, List.set_cons_zero, List.set_cons_succ])
        iterate 2 (with_reducible refine wpL_val (v := ?_) ?_ ?_ ?_; rotate_left; (· kernel_rfl); (· go_simp; try with_reducible rfl); conv => arg 5; simp only [Act.put, List.setIfInBounds_toArray, List.set_cons_zero, List.set_cons_succ])
        iterate 3 (with_reducible refine wpL_skip ?_ ?_; (· kernel_rfl); conv => arg 5; simp only [Act.put, List.setIfInBounds_toArray, List.set_cons_zero, List.set_cons_succ])
        iterate 2 (with_reducible refine wpL_val (v := ?_) ?_ ?_ ?_; rotate_left; (· kernel_rfl); (· go_simp; try with_reducible rfl); conv => arg 5; simp only [Act.put, List.setIfInBounds_toArray, List.set_cons_zero, List.set_cons_succ])
        iterate 4 (with_reducible refine wpL_skip ?_ ?_; (· kernel_rfl); conv => arg 5; simp only [Act.put, List.setIfInBounds_toArray, List.set_cons_zero, List.set_cons_succ])
        iterate 1 (with_reducible refine wpL_val (v := ?_) ?_ ?_ ?_; rotate_left; (· kernel_rfl); (· go_simp; try with_reducible rfl); conv => arg 5; simp only [Act.put, List.setIfInBounds_toArray, List.set_cons_zero, List.set_cons_succ])
        refine wpList_nil ?_
        go_wp2
        go_ret
        exact ⟨by rw [HNO.out]; rfl, hW1⟩
      have d2 : decide (3 < s.side) = false := decide_eq_false c2
      by_cases c3 : s.at_ < 0
      · have d3 : decide (s.at_ < 0) = true := decide_eq_true c3
        have hno : checkS l = 2 := by rw [HCS.out, if_neg (bad HQ.out (fun h => (by have h1 := h.1; have h2 := h.2.1; have h3 := h.2.2.1; have h4 := h.2.2.2; omega)))]
        have HNO := Lib.hid hno
        clear c1 c2 c3 hno
        iterate 14 (with_reducible refine wpL_val (v := ?_) ?_ ?_ ?_; rotate_left; (· kernel_rfl); (· go_simp; try with_reducible rfl); conv => arg 5; simp only [Act.put, List.setIfInBounds_toArray, List.set_cons_zero, List.set_cons_succ])
        iterate 3 (with_reducible refine wpL_skip ?_ ?_; (· kernel_rfl); conv => arg 5; simp only [Act.put, List.setIfInBounds_toArray, List.set_cons_zero, List.set_cons_succ])
        iterate 2 (with_reducible refine wpL_val (v := ?_) ?_ ?_ ?_; rotate_left; (· kernel_rfl); (· go_simp; try with_reducible rfl); conv => arg 5; simp only [Act.put, List.setIfInBounds_toArray, List.set_cons_zero, List.set_cons_succ])
        iterate 4 (with_reducible refine wpL_skip ?_ ?_; (· kernel_rfl); conv => arg 5; simp only [Act.put, List.setIfInBounds_toArray, List.set_cons_zero, List.set_cons_succ])
        iterate 1 (with_reducible refine wpL_val (v := ?_) ?_ ?_ ?_; rotate_left; (· kernel_rfl); (· go_simp; try with_reducible rfl); conv => arg 5; simp only [Act.put, List.setIfInBounds_toArray, List.set_cons_zero, List.set_cons_succ])
        refine wpList_nil ?_
        go_wp2
        go_ret
        exact ⟨by rw [HNO.out]; rfl, hW1⟩
      have d3 : decide (s.at_ < 0) = false := decide_eq_false c3
      by_cases c4 : 256 < s.at_
      · have d4 : decide (256 < s.at_) = true := decide_eq_true c4
        have hno : checkS l = 2 := by rw [HCS.out, if_neg (bad HQ.out (fun h => (by have h1 := h.1; have h2 := h.2.1; have h3 := h.2.2.1; have h4 := h.2.2.2; omega)))]
        have HNO := Lib.hid hno
        clear c1 c2 c3 c4 hno
        iterate 19 (with_reducible refine wpL_val (v := ?_) ?_ ?_ ?_; rotate_left; (· kernel_rfl); (· go_simp; try with_reducible rfl); conv => arg 5; simp only [Act.put, List.setIfInBounds_toArray, List.set_cons_zero, List.set_cons_succ])
        iterate 4 (with_reducible refine wpL_skip ?_ ?_; (· kernel_rfl); conv => arg 5; simp only [Act.put, List.setIfInBounds_toArray, List.set_cons_zero, List.set_cons_succ])
        iterate 1 (with_reducible refine wpL_val (v := ?_) ?_ ?_ ?_; rotate_left; (· kernel_rfl); (· go_simp; try with_reducible rfl); conv => arg 5; simp only [Act.put, List.setIfInBounds_toArray, List.set_cons_zero, List.set_cons_succ])
        refine wpList_nil ?_
        go_wp2
        go_ret
        exact ⟨by rw [HNO.out]; rfl, hW1⟩
      have d4 : decide (256 < s.at_) = false := decide_eq_false c4
      have hok : okS s := ⟨by omega, by omega, by omega, by omega⟩
      have HOK := Lib.hid hok
      clear c1 c2 c3 c4 hok
      iterate 20 (with_reducible refine wpL_val (v := ?_) ?_ ?_ ?_; rotate_left; (· kernel_rfl); (· go_simp; try with_reducible rfl); conv => arg 5; simp only [Act.put, List.setIfInBounds_toArray, List.set_cons_zero, List.set_cons_succ])
      refine wpL_load (l := [.int .i64 s.side, .int .i64 s.at_]) (by rfl) (by rfl) hY Try.underlying58 (by rfl) (by kernel_rfl) (by kernel_rfl) ?_
      conv => arg 5; simp only [Act.put, List.setIfInBounds_toArray, List.set_cons_zero, List.set_cons_succ]
      by_cases c5 : nmS s ∈ (l.take k).map nmS
      · have hno : checkS l = 2 := by rw [HCS.out, if_neg (twice HQ.out c5)]
        have HNO := Lib.hid hno
        have C5 := Lib.hid c5
        clear c5 hno
        refine wpL_val (v := .int .i64 1) (by kernel_rfl) (PMap.run_look (by rfl) (by rfl) (by rfl) (PMap.look_in hM1.out C5.out)) ?_
        conv => arg 5; simp only [Act.put, List.setIfInBounds_toArray, List.set_cons_zero, List.set_cons_succ]
        iterate 2 (with_reducible refine wpL_val (v := ?_) ?_ ?_ ?_; rotate_left; (· kernel_rfl); (· go_simp; try with_reducible rfl); conv => arg 5; simp only [Act.put, List.setIfInBounds_toArray, List.set_cons_zero, List.set_cons_succ])
        refine wpList_nil ?_
        go_wp2
        go_ret
        exact ⟨by rw [HNO.out]; rfl, hW1⟩
      have C5 := Lib.hid c5
      clear c5
      refine wpL_val (v := .int .i64 0) (by kernel_rfl) (PMap.run_look (by rfl) (by rfl) (by rfl) (PMap.look_out hM1.out C5.out)) ?_
      conv => arg 5; simp only [Act.put, List.setIfInBounds_toArray, List.set_cons_zero, List.set_cons_succ]
      iterate 2 (with_reducible refine wpL_val (v := ?_) ?_ ?_ ?_; rotate_left; (· kernel_rfl); (· go_simp; try with_reducible rfl); conv => arg 5; simp only [Act.put, List.setIfInBounds_toArray, List.set_cons_zero, List.set_cons_succ])
      refine wpList_nil ?_
      iterate 6 go_step
      have hlen : ((l.take k).map nmS).length = k := by rw [List.length_map, List.length_take]; have := HN.out; omega
      have HLEN := Lib.hid hlen
      have hMM : wx.heap[w.heap.size]? = some (.map (PMap.ents ((l.take k).map nmS)).toArray ((l.take k).map nmS).length) := by rw [HLEN.out]; exact hM1.out
      have hsnoc : (l.take (k + 1)).map nmS = (l.take k).map nmS ++ [nmS s] := by rw [PGr.take_snoc HQ.out, List.map_append]; rfl
      have hnm2 : named (l.take (k + 1)) := named_snoc HQ.out HNM.out HOK.out C5.out
      have HSN := Lib.hid hsnoc; have HN2 := Lib.hid hnm2
      clear hsnoc hnm2 hlen
      generalize (l.take k).map nmS = L at *
      refine wp_region_ph [(6, .free [])] (by kernel_rfl) (by kernel_rfl) ?_
      refine Ph.one 4 (PMap.Ahead w w.heap.size gy L (nmS s)) (PMap.Behind w w.heap.size gy L (nmS s)) (by rfl) ⟨hW1.drew, hY.drew, hMM⟩ ?_
      simp only [List.drop_succ_cons, List.drop_zero, List.take_succ_cons, List.take_zero, Nat.reduceSub, Nat.sub_zero]
      iterate 1 (refine SeqO.val1 (v := ?_) (by rfl) (by rfl) (fun w1 hS => ?_) ?_; rotate_left; (· skip; go_simp; try with_reducible rfl); simp only [Act.put, List.setIfInBounds_toArray, List.set_cons_zero, List.set_cons_succ])
      refine SeqO.val1 (v := .agg [.int .i64 s.side, .int .i64 s.at_].toArray) (by rfl) (by rfl) (fun u hS => run_load_row (by rfl) (by rfl) (hS.elim (fun h => h.Y) (fun h => h.Y)) Try.underlying58 (by rfl) (by kernel_rfl)) ?_
      simp only [Act.put, List.setIfInBounds_toArray, List.set_cons_zero, List.set_cons_succ]
      refine SeqO.val1 (v := .int .i64 0) (by rfl) (by rfl) (fun u hS => PMap.run_look (by rfl) (by rfl) (by rfl) (hS.elim (fun h => PMap.look_out h.M C5.out) (fun h => PMap.look_new h.M C5.out))) ?_
      simp only [Act.put, List.setIfInBounds_toArray, List.set_cons_zero, List.set_cons_succ]
      iterate 1 (refine SeqO.val1 (v := ?_) (by rfl) (by rfl) (fun w1 hS => ?_) ?_; rotate_left; (· skip; go_simp; try with_reducible rfl); simp only [Act.put, List.setIfInBounds_toArray, List.set_cons_zero, List.set_cons_succ])
      refine PMap.SeqO.turn (v := .tuple #[.int .i64 0, .int .i64 (L.length : Int)]) (by rfl) (by rfl) (fun u hR => ⟨_, PMap.run_entry (by rfl) (by rfl) (by rfl) (PMap.entry_new hR.M C5.out), hR.entry (by omega) (Nat.le_refl _)⟩) ?_
      simp only [Act.put, List.setIfInBounds_toArray, List.set_cons_zero, List.set_cons_succ]
      iterate 1 (refine SeqO.val1 (v := ?_) (by rfl) (by rfl) (fun w1 hS => ?_) ?_; rotate_left; (· skip; go_simp; try with_reducible rfl); simp only [Act.put, List.setIfInBounds_toArray, List.set_cons_zero, List.set_cons_succ])
      refine SeqO.nil1 (by decide) fun wy hB => ?_
      refine Ph.last ?_
      simp only [List.drop_succ_cons, List.drop_zero, List.take_succ_cons, List.take_zero, Nat.reduceSub, Nat.sub_zero]
      refine wpList_store (by kernel_rfl) (PMap.run_estore (by rfl) (by rfl) (by rfl) (by rfl) (PMap.store_new hB.M)) ?_
      refine wpList_nil ?_
      have hW2 := PMap.below_setBlock hB.W (Nat.le_refl _) (.map (PMap.ents (L ++ [nmS s])).toArray (L.length + 1))
      have hM3 := PMap.heap_setBlock (Array.getElem?_eq_some_iff.1 hB.M).1 (.map (PMap.ents (L ++ [nmS s])).toArray (L.length + 1))
      clear hW hX hY hM1 hW1 hMM hB
      revert hW2 hM3
      generalize setBlock wy w.heap.size (.map (PMap.ents (L ++ [nmS s])).toArray (L.length + 1)) = wz
      intro hW2 hM3
      clear x0 x1 x2 x3 x4 xf
      go_wp2
      go_roundw
      case rel => exact ⟨k + 1, by omega, by go_num, HN2.out, by rw [HSN.out, ← HLEN.out]; exact hM3, hW2⟩
      case measure => simp [intOf]; omega
    · obtain rfl : k = n := by omega
      have htk : l.take k = l := List.take_of_length_le (by rw [HN.out]; exact Nat.le_refl _)
      rw [htk] at hnm
      have hcs : checkS l = if ∀ s ∈ l, s.p.ok then 0 else 7 := by rw [HCS.out, if_pos hnm]
      have HC2 := Lib.hid hcs; have HT := Lib.hid htk
      clear hnm htk hcs hM hlt HCS
      go_wp2
      go_loopw [57] (fun i wr => ∃ j : Nat, j ≤ k ∧ i = .int .i64 j ∧ (∀ s ∈ l.take j, s.p.ok) ∧ Below w.heap.size w wr) (fun i _ => k - (intOf i).toNat)
      case atStart => exact ⟨0, Nat.zero_le _, rfl, fun s hs => (by cases hs), hW⟩
      case round =>
        clear hW
        rename_i wr
        obtain ⟨j, hj, rfl, hall, hW⟩ := hrel
        by_cases hlt : j < k
        · obtain ⟨s, hq⟩ : ∃ s, l[j]? = some s := ⟨_, List.getElem?_eq_getElem (by rw [HN.out]; exact hlt)⟩
          have HQ := Lib.hid hq; have HA := Lib.hid (show ∀ s ∈ l.take j, s.p.ok from hall)
          clear hq hall
          have t1 : decide ((j : Int) < (k : Int)) = true := by simpa using hlt
          have hbw : b < wr.heap.size := by have := hW.size; omega
          iterate 3 go_step
          iterate 1 (with_reducible refine wpL_val (v := ?_) ?_ ?_ ?_; rotate_left; (· kernel_rfl); (· go_simp; try with_reducible rfl); conv => arg 5; simp only [Act.put, List.setIfInBounds_toArray, List.set_cons_zero, List.set_cons_succ])
          refine wpList_nil ?_
          iterate 11 go_step
          iterate 1 (with_reducible refine wpL_val (v := ?_) ?_ ?_ ?_; rotate_left; (· kernel_rfl); (· go_simp; try with_reducible rfl); conv => arg 5; simp only [Act.put, List.setIfInBounds_toArray, List.set_cons_zero, List.set_cons_succ])
          refine wpL_at (l := [.int .i64 s.side, .int .i64 s.at_, .int .i64 s.p.x, .int .i64 s.p.y, .int .i64 s.p.z]) (by rfl) (by rfl) (HS.out.step hb hW j s HQ.out) Try.underlying32 (by rfl) (by kernel_rfl) (by kernel_rfl) ?_
          conv => arg 5; simp only [Act.put, List.setIfInBounds_toArray, List.set_cons_zero, List.set_cons_succ]
          refine wpL_go (v := .pointer (some ⟨wr.heap.size, 0, none⟩)) (w' := wr.alloc (.cells [.int .i64 0, .int .i64 0, .int .i64 0, .int .i64 0, .int .i64 0].toArray 32)) (by kernel_rfl) (by go_simp) ?_
          conv => arg 5; simp only [Act.put, List.setIfInBounds_toArray, List.set_cons_zero, List.set_cons_succ]
          refine wpL_store (cs := [.int .i64 s.side, .int .i64 s.at_, .int .i64 s.p.x, .int .i64 s.p.y, .int .i64 s.p.z]) (by rfl) (by rfl) (by rfl) (Box.new rfl) (by kernel_rfl) (by rfl) (by simp [Value.oneCell']) (by kernel_rfl) ?_
          conv => arg 5; simp only [Act.put, List.setIfInBounds_toArray, List.set_cons_zero, List.set_cons_succ]
          rw [alloc_setRow]
          refine wpList_nil ?_
          have hX : Box (wr.alloc (.cells [.int .i64 s.side, .int .i64 s.at_, .int .i64 s.p.x, .int .i64 s.p.y, .int .i64 s.p.z].toArray 32)) wr.heap.size [.int .i64 s.side, .int .i64 s.at_, .int .i64 s.p.x, .int .i64 s.p.y, .int .i64 s.p.z] 32 := Box.new rfl
          have hW1 := hW.alloc hW.size (.cells [.int .i64 s.side, .int .i64 s.at_, .int .i64 s.p.x, .int .i64 s.p.y, .int .i64 s.p.z].toArray 32)
          revert hX hW1
          generalize wr.alloc (.cells [.int .i64 s.side, .int .i64 s.at_, .int .i64 s.p.x, .int .i64 s.p.y, .int .i64 s.p.z].toArray 32) = wa
          generalize wr.heap.size = gx
          intro hX hW1
          iterate 4 go_step
          iterate 1 (with_reducible refine wpL_val (v := ?_) ?_ ?_ ?_; rotate_left; (· kernel_rfl); (· go_simp; try with_reducible rfl); conv => arg 5; simp only [Act.put, List.setIfInBounds_toArray, List.set_cons_zero, List.set_cons_succ])
          refine wpL_part (l := [.int .i64 s.p.x, .int .i64 s.p.y, .int .i64 s.p.z]) (by rfl) (by rfl) hX (by rfl) Try.underlying30 (by rfl) (by kernel_rfl) (by kernel_rfl) ?_
          conv => arg 5; simp only [Act.put, List.setIfInBounds_toArray, List.set_cons_zero, List.set_cons_succ]
          with_reducible refine wpL_call (ca := ?_) (args := ?_) ?_ ?_ cf14 ?_ ?_
          rotate_left 2
          · kernel_rfl
          · rfl
          · simp [Act.eval] <;> rfl
          by_cases hok : s.p.ok
          · refine (GCk.gcheck_ok s.p _ hok).mono ?_
            rintro e wb ⟨rfl, hS⟩
            refine ⟨_, rfl, ?_⟩
            conv => arg 5; simp only [Act.put, List.setIfInBounds_toArray, List.set_cons_zero, List.set_cons_succ]
            have hW2 := hW1.trans (hS.mono hW1.size)
            have HOK := Lib.hid hok
            clear hok hS hX hW hW1
            iterate 1 (with_reducible refine wpL_val (v := ?_) ?_ ?_ ?_; rotate_left; (· kernel_rfl); (· go_simp; try with_reducible rfl); conv => arg 5; simp only [Act.put, List.setIfInBounds_toArray, List.set_cons_zero, List.set_cons_succ])
            refine wpList_nil ?_
            go_wp2
            go_roundw
            case rel =>
              refine ⟨j + 1, by omega, by go_num, fun x hx => ?_, hW2⟩
              rw [PGr.take_snoc HQ.out] at hx
              rcases List.mem_append.1 hx with hx | hx
              · exact HA.out x hx
              · obtain rfl := List.mem_singleton.1 hx; exact HOK.out
            case measure => simp [intOf]; omega
          · refine (GCk.gcheck_no s.p _ hok).mono ?_
            rintro e wb ⟨rfl, hS⟩
            refine ⟨_, rfl, ?_⟩
            conv => arg 5; simp only [Act.put, List.setIfInBounds_toArray, List.set_cons_zero, List.set_cons_succ]
            have hW2 := hW1.trans (hS.mono hW1.size)
            have HNO := Lib.hid (show checkS l = 7 by rw [HC2.out, if_neg (fun h => hok (h s (List.mem_of_getElem? HQ.out)))])
            clear hok hS hX hW hW1
            iterate 1 (with_reducible refine wpL_val (v := ?_) ?_ ?_ ?_; rotate_left; (· kernel_rfl); (· go_simp; try with_reducible rfl); conv => arg 5; simp only [Act.put, List.setIfInBounds_toArray, List.set_cons_zero, List.set_cons_succ])
            refine wpList_nil ?_
            go_wp2
            go_ret
            exact ⟨by rw [HNO.out]; rfl, hW2⟩
        · obtain rfl : j = k := by omega
          rw [HT.out] at hall
          have HNO := Lib.hid (show checkS l = 0 by rw [HC2.out, if_pos hall])
          clear hall hlt
          go_wp2
          go_ret
          exact ⟨by rw [HNO.out]; rfl, hW⟩
set_option maxRecDepth 100000 in
set_option maxHeartbeats 2000000 in
theorem check0 (A : Option Addr) (cap : Nat) (w : World) : RetB Try.prog 10 #[.slice A 0 cap] w (.int .i64 0) := by
  have hmm := @run_makeMap Try.prog
  unfold RetB
  go_enter Try.func10, Try.ntmps10
  go_wp2
  refine wp_loop_rounds 1 ?_
  rw [rounds_succ]
  go_wp2
  refine wp_loop_rounds 1 ?_
  rw [rounds_succ]
  go_wp2
  go_ret
  exact ⟨rfl, (Below.refl _ _).alloc (Nat.le_refl _) _⟩
set_option maxRecDepth 100000 in
set_option maxHeartbeats 2000000 in
theorem checkL (A : Option Addr) (n cap : Nat) (h : 256 < n) (w : World) : RetB Try.prog 10 #[.slice A n cap] w (.int .i64 3) := by
  have t0 : decide ((256 : Int) < (n : Int)) = true := decide_eq_true (by omega)
  unfold RetB
  go_enter Try.func10, Try.ntmps10
  go_wp2
  go_ret
  exact ⟨rfl, Below.refl _ _⟩
theorem checkC {A : Option Addr} {n : Nat} (cap : Nat) {l : List Spo} {w : World} (h : SlS w A n l) : RetB Try.prog 10 #[.slice A n cap] w (.int .i64 (checkS l)) := by
  by_cases hn : 256 < n
  · rw [show checkS l = 3 from if_pos (by rw [h.1]; exact hn)]; exact checkL A n cap hn w
  · rcases Nat.eq_zero_or_pos n with h0 | h0
    · subst h0
      have : l = [] := List.eq_nil_of_length_eq_zero h.1
      subst this
      exact check0 A cap w
    · obtain ⟨b, off, rfl, hb, hs⟩ := h.2 h0
      exact checkA w hb hs h.1 h0 (by omega)
end PCk
end Go.Proofs.Ytbbiefgmlklafaa
