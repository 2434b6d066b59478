/- The patch of spots: the walk. Condition: the slice's cells are as told. -/
import Derived.Test.YtbbiefgmlklafaaPPl
import Derived.Test.YtbbiefgmlklafaaPCn
import Derived.Test.YtbbiefgmlklafaaShf
namespace Go.Proofs.Ytbbiefgmlklafaa
set_option linter.unusedVariables false
set_option linter.unusedSimpArgs false
open Go.RowKit Go.NP
namespace PPa
open PGr PCk PCl PPl
theorem cf18 (args : Array Value) (w1 : World) : (callFunc 18 args).run Try.prog w1 = .ok (.enter 18 args) w1 := enters Try.func18 (by kernel_rfl) (by kernel_rfl) args w1
theorem cf20 (args : Array Value) (w1 : World) : (callFunc 20 args).run Try.prog w1 = .ok (.enter 20 args) w1 := enters Try.func20 (by kernel_rfl) (by kernel_rfl) args w1
theorem cf22 (args : Array Value) (w1 : World) : (callFunc 22 args).run Try.prog w1 = .ok (.enter 22 args) w1 := enters Try.func22 (by kernel_rfl) (by kernel_rfl) args w1
/-- What Patch hands back: a slice of one's own, and an error's number. -/
def RetP (args : Array Value) (w : World) (l : List Spo) (n : Int) : Prop := Calls Try.prog 7 args w fun e w' => ∃ v, e = .returned (.tuple #[v, .int .i64 n]) ∧ OwnS w' w.heap.size v l ∧ Below w.heap.size w w'
set_option maxRecDepth 100000 in
set_option maxHeartbeats 2000000 in
theorem patchE {A : Option Addr} {n cap : Nat} {l : List Spo} (w : World) (h : SlS w A n l) (c : Int) (hcc : checkS l = c) (hc : ¬ c = 0) : RetP #[.slice A n cap] w [] c := by
  have H := Lib.hid h; have HC := Lib.hid hcc
  have e0 : (c != 0) = true := by simpa using hc
  clear h hc hcc
  unfold RetP
  go_enter Try.func7, Try.ntmps7
  go_wp2_with fail
  refine ((PCk.checkC cap (H.out.step ((Below.refl _ _).alloc (Nat.le_refl _) _))).eq (v' := .int .i64 c) (by rw [HC.out])).mono ?_
  rintro e w1 ⟨rfl, hS⟩
  have hW : Below w.heap.size w w1 := ((Below.refl _ _).alloc (Nat.le_refl _) _).trans (hS.mono (by simp))
  go_wp2
  go_ret2
  exact ⟨.slice none 0 0, rfl, OwnS.nil _ _, hW⟩
set_option maxRecDepth 100000 in
set_option maxHeartbeats 2000000 in
theorem patchF {A : Option Addr} {n cap : Nat} {l : List Spo} (w : World) (h : SlS w A n l) (hc : checkS l = 0) (hn : n ≤ 4) : RetP #[.slice A n cap] w l 0 := by
  have H := Lib.hid h; have HC := Lib.hid hc
  have t4 : decide ((n : Int) ≤ 4) = true := decide_eq_true (by omega)
  clear h hc
  unfold RetP
  go_enter Try.func7, Try.ntmps7
  go_wp2_with fail
  have hB := (Below.refl w.heap.size w).alloc (Nat.le_refl _) (.cells [.slice A n cap].toArray 22)
  refine ((PCk.checkC cap (H.out.step hB)).eq (v' := .int .i64 0) (by rw [HC.out])).mono ?_
  rintro e w1 ⟨rfl, hS⟩
  have hX : Box w1 w.heap.size [.slice A n cap] 22 := (Box.new rfl).step hS
  have hW : Below w.heap.size w w1 := hB.trans (hS.mono (by simp))
  clear hS hB
  have x0 := hX.cell 0
  simp only [List.getElem?_cons_zero] at x0
  go_wp2_with fail
  refine (PCn.cloneC cap w1 (H.out.step hW) (by omega)).mono ?_
  rintro e w2 ⟨v, rfl, hO, hS⟩
  go_wp2
  go_ret2
  exact ⟨v, rfl, hO.mono hW.size, hW.trans (hS.mono hW.size)⟩
set_option maxRecDepth 100000 in
set_option maxHeartbeats 2000000 in
theorem patchG {b off n cap : Nat} {l : List Spo} (w : World) (hb : b < w.heap.size) (hs : SAt w b off l) (hn : l.length = n) (hc : checkS l = 0) (h4 : 4 < n) : RetP #[.slice (some ⟨b, off, none⟩) n cap] w ((places l).map fun i => nth l i.toNat) 0 := by
  have hok := checkS_ok hc
  have hne : l ≠ [] := fun e => by subst e; simp at hn; omega
  have hi : n ≤ 1000000 := by have := hok.1; omega
  have k1 := best_lt (fA l) hne; have k2 := best_lt (fB l) hne; have k3 := best_lt (fC l) hne
  have H : SlS w (some ⟨b, off, none⟩) n l := ⟨hn, fun _ => ⟨b, off, rfl, hb, hs⟩⟩
  have HS := Lib.hid hs; have HN := Lib.hid hn; have HC := Lib.hid hc; have HOK := Lib.hid hok.2.2; have H := Lib.hid H
  have t4 : decide ((n : Int) ≤ 4) = false := decide_eq_false (by omega)
  have hmf : ∀ (fn : Fn) (first cap : Array Value) (w : World), (Instr.makeFunc fn first cap).run Try.prog w = .ok (.func fn first cap) w := fun _ _ _ _ => rfl
  clear hs hn hc hok hne
  unfold RetP
  go_enter Try.func7, Try.ntmps7
  go_wp2_with fail
  have hB := (Below.refl w.heap.size w).alloc (Nat.le_refl _) (.cells [.slice (some ⟨b, off, none⟩) n cap].toArray 22)
  refine ((PCk.checkC cap (H.out.step hB)).eq (v' := .int .i64 0) (by rw [HC.out])).mono ?_
  rintro e w1 ⟨rfl, hS⟩
  have hX : Box w1 w.heap.size [.slice (some ⟨b, off, none⟩) n cap] 22 := (Box.new rfl).step hS
  have hW : Below w.heap.size w w1 := hB.trans (hS.mono (by simp))
  clear hS hB
  have hX1 := hX.alloc (.cells [.int .i64 0, .int .i64 0, .int .i64 0, .int .i64 0].toArray 44)
  have hY1 : Box (w1.alloc (.cells [.int .i64 0, .int .i64 0, .int .i64 0, .int .i64 0].toArray 44)) w1.heap.size [.int .i64 0, .int .i64 0, .int .i64 0, .int .i64 0] 44 := Box.new rfl
  have hW1 := hW.alloc hW.size (.cells [.int .i64 0, .int .i64 0, .int .i64 0, .int .i64 0].toArray 44)
  have hxy : w.heap.size < w1.heap.size := hX.lt
  have x0 := hX.cell 0
  simp only [List.getElem?_cons_zero] at x0
  go_wp2_with fail
  have HH1 : Held (w1.alloc (.cells [.int .i64 0, .int .i64 0, .int .i64 0, .int .i64 0].toArray 44)) w.heap.size w1.heap.size b off n cap l 0 0 0 0 := ⟨hX1, hY1, by have := hW1.size; omega, HS.out.step hb hW1, HN.out, hi⟩
  have HH := Lib.hid HH1
  refine (greatestC (fA l) 18 #[.pointer (some ⟨w.heap.size, 0, none⟩), .pointer (some ⟨w1.heap.size, 0, none⟩)] cf18 _ HH1.hb HH1.hs HN.out hi (fun s hs => WidB.half_fits (far_half (HOK.out s hs) (HOK.out _ (nth_mem (by omega))))) (fun w2 hb2 s hs => p1C (HH.out.step hb2) (HOK.out s hs) (HOK.out _ (nth_mem (by omega))) (nth_get (by omega)))).mono ?_
  rintro e w2 ⟨rfl, hS⟩
  rw [show (best (fA l) l).at_ = at1 l from rfl] at *
  have hX2 := hX1.step hS
  have hY2 := hY1.step hS
  have hW2 := hW1.trans (hS.mono hW1.size)
  clear hS HH HH1 hX hX1 hY1 hW hW1 x0
  generalize w1.heap.size = ga at *
  have x0 := hX2.cell 0
  have q0 := hY2.cell 0; have q1 := hY2.cell 1; have q2 := hY2.cell 2; have q3 := hY2.cell 3; have qf := hY2.free
  have j0 := hX2.lt; have j1 := hY2.lt
  simp only [List.getElem?_cons_zero, List.getElem?_cons_succ] at x0 q0 q1 q2 q3
  go_wp2_with fail
  clear x0 q0 q1 q2 q3 qf
  have hX3 := hX2.other (p := ⟨ga, 1, none⟩) (by simp; omega) (.int .i64 (at1 l : Int))
  have hY3 := hY2.set 1 (.int .i64 (at1 l : Int))
  have hW3 := hW2.setCell (p := ⟨ga, 1, none⟩) (by simp; omega) (.int .i64 (at1 l : Int))
  have hz3 : (w2.setCell ⟨ga, 1, none⟩ (.int .i64 (at1 l : Int))).heap.size = w2.heap.size := by simp
  revert hX3 hY3 hW3 hz3
  generalize w2.setCell ⟨ga, 1, none⟩ (.int .i64 (at1 l : Int)) = w3
  intro hX3 hY3 hW3 hz3
  have HH1 : Held w3 w.heap.size ga b off n cap l 0 (at1 l) 0 0 := ⟨hX3, hY3, by have := hW3.size; omega, HS.out.step hb hW3, HN.out, hi⟩
  have HH := Lib.hid HH1
  refine (greatestC (fB l) 20 #[.pointer (some ⟨w.heap.size, 0, none⟩), .pointer (some ⟨ga, 0, none⟩)] cf20 _ HH1.hb HH1.hs HN.out hi (fun s hs => fitB (HOK.out _ (nth_mem (by omega))) (HOK.out _ (nth_mem k1)) (HOK.out s hs)) (fun w2 hb2 s hs => p2C (HH.out.step hb2) (HOK.out s hs) (HOK.out _ (nth_mem (by omega))) (HOK.out _ (nth_mem k1)) (nth_get (by omega)) (nth_get k1))).mono ?_
  rintro e w4 ⟨rfl, hS⟩
  rw [show (best (fB l) l).at_ = at2 l from rfl] at *
  have hX4 := hX3.step hS
  have hY4 := hY3.step hS
  have hW4 := hW3.trans (hS.mono hW3.size)
  clear hS HH HH1 hX2 hY2 hW2 hX3 hY3 hW3 j0 j1
  have x0 := hX4.cell 0
  have q0 := hY4.cell 0; have q1 := hY4.cell 1; have q2 := hY4.cell 2; have q3 := hY4.cell 3; have qf := hY4.free
  have j0 := hX4.lt; have j1 := hY4.lt
  simp only [List.set_cons_zero, List.set_cons_succ, List.getElem?_cons_zero, List.getElem?_cons_succ] at x0 q0 q1 q2 q3
  go_wp2_with fail
  clear x0 q0 q1 q2 q3 qf
  have hX5 := hX4.other (p := ⟨ga, 2, none⟩) (by simp; omega) (.int .i64 (at2 l : Int))
  have hY5 := hY4.set 2 (.int .i64 (at2 l : Int))
  have hW5 := hW4.setCell (p := ⟨ga, 2, none⟩) (by simp; omega) (.int .i64 (at2 l : Int))
  revert hX5 hY5 hW5
  generalize w4.setCell ⟨ga, 2, none⟩ (.int .i64 (at2 l : Int)) = w5
  intro hX5 hY5 hW5
  have HH1 : Held w5 w.heap.size ga b off n cap l 0 (at1 l) (at2 l) 0 := ⟨hX5, hY5, by have := hW5.size; omega, HS.out.step hb hW5, HN.out, hi⟩
  have HH := Lib.hid HH1
  refine (greatestC (fC l) 22 #[.pointer (some ⟨w.heap.size, 0, none⟩), .pointer (some ⟨ga, 0, none⟩)] cf22 _ HH1.hb HH1.hs HN.out hi (fun s hs => fitC (HOK.out _ (nth_mem (by omega))) (HOK.out _ (nth_mem k1)) (HOK.out _ (nth_mem k2)) (HOK.out s hs)) (fun w2 hb2 s hs => p3C (HH.out.step hb2) (HOK.out s hs) (HOK.out _ (nth_mem (by omega))) (HOK.out _ (nth_mem k1)) (HOK.out _ (nth_mem k2)) (nth_get (by omega)) (nth_get k1) (nth_get k2))).mono ?_
  rintro e w6 ⟨rfl, hS⟩
  rw [show (best (fC l) l).at_ = at3 l from rfl] at *
  have hX6 := hX5.step hS
  have hY6 := hY5.step hS
  have hW6 := hW5.trans (hS.mono hW5.size)
  clear hS HH HH1 hX4 hY4 hW4 hX5 hY5 hW5 j0 j1
  have x0 := hX6.cell 0
  have q0 := hY6.cell 0; have q1 := hY6.cell 1; have q2 := hY6.cell 2; have q3 := hY6.cell 3; have qf := hY6.free
  have j0 := hX6.lt; have j1 := hY6.lt
  simp only [List.set_cons_zero, List.set_cons_succ, List.getElem?_cons_zero, List.getElem?_cons_succ] at x0 q0 q1 q2 q3
  go_wp2_with fail
  clear x0 q0 q1 q2 q3 qf
  have hX7 := hX6.other (p := ⟨ga, 3, none⟩) (by simp; omega) (.int .i64 (at3 l : Int))
  have hY7 := hY6.set 3 (.int .i64 (at3 l : Int))
  have hW7 := hW6.setCell (p := ⟨ga, 3, none⟩) (by simp; omega) (.int .i64 (at3 l : Int))
  revert hX7 hY7 hW7
  generalize w6.setCell ⟨ga, 3, none⟩ (.int .i64 (at3 l : Int)) = w7
  intro hX7 hY7 hW7
  have hY7 : Box w7 ga (ivl [0, (at1 l : Int), (at2 l : Int), (at3 l : Int)]) 44 := hY7
  clear hX6 hY6 hW6 j0 j1
  have hsort : Calls Try.prog 23 #[.slice (some ⟨ga, 0, none⟩) 4 4] w7 fun e w' => e = .returned (.tuple #[]) ∧ ∃ n os, w' = Sort.grow (Sort.putRow (Value.int .i64) (Sort.ahead w7 n) ga 0 (four l).toArray) os :=
    Try.slices_Sort_int ga 0 4 [0, (at1 l : Int), (at2 l : Int), (at3 l : Int)] w7 (holds_box hY7) hY7.lt (by simp)
  refine hsort.mono ?_
  rintro e w8 ⟨rfl, nn, os, rfl⟩
  clear hsort
  have hX8 := box_putRow_other hX7 (g := w.heap.size) (b := ga) (by omega) (four l) nn os
  have hY8 := box_putRow hY7 (four l) (by rw [four_len]; rfl) nn os
  have hW8 := below_putRow hW7 (b := ga) (by omega) hY7.lt (four l) nn os
  clear hX7 hY7 hW7
  revert hX8 hY8 hW8
  generalize Sort.grow (Sort.putRow (Value.int .i64) (Sort.ahead w7 nn) ga 0 (four l).toArray) os = w8
  intro hX8 hY8 hW8
  go_wp2_with fail
  have hcomp : Calls Try.prog 24 #[.slice (some ⟨ga, 0, none⟩) 4 4] w8 fun e w' => e = .returned (.slice (some ⟨ga, 0, none⟩) (places l).length 4) ∧ ∃ q, w' = Sort.grow (Sort.putRow (Value.int .i64) (Sort.ahead w8 q) ga 0 (places l ++ List.replicate (4 - (places l).length) 0).toArray) #[] := by
    have := Try.slices_Compact_int ga 0 4 (four l) w8 (holds_box hY8) (by rw [four_len]; decide) (by rw [four_len]; decide)
    rw [four_len] at this
    exact this.mono fun e w' ⟨he, q, hw⟩ => ⟨he, q, by rw [hw, Sort.grow_empty]; rfl⟩
  refine hcomp.mono ?_
  rintro e w9 ⟨rfl, q, rfl⟩
  clear hcomp
  have hm : (places l).length ≤ 4 := places_len l
  have hX9 := box_putRow_other hX8 (g := w.heap.size) (b := ga) (by omega) (places l ++ List.replicate (4 - (places l).length) 0) q #[]
  have hY9 := box_putRow hY8 (places l ++ List.replicate (4 - (places l).length) 0) (by rw [four_len, List.length_append, List.length_replicate]; omega) q #[]
  have hW9 := below_putRow hW8 (b := ga) (by omega) hY8.lt (places l ++ List.replicate (4 - (places l).length) 0) q #[]
  clear hX8 hY8 hW8
  revert hX9 hY9 hW9
  generalize Sort.grow (Sort.putRow (Value.int .i64) (Sort.ahead w8 q) ga 0 (places l ++ List.replicate (4 - (places l).length) 0).toArray) #[] = w9
  intro hX9 hY9 hW9
  obtain ⟨i0, hi0, hz0, hz1, hz2⟩ := info_parts infoSt
  have HZ := Lib.hid hz0; have HZ1 := Lib.hid hz1; have HZ2 := Lib.hid hz2; have HI := Lib.hid hi0
  clear hz0 hz1 hz2 hi0
  have HPL := Lib.hid (fun i (h : i ∈ places l) => places_mem h)
  generalize hP : places l = P at *
  generalize hm' : P.length = m at *
  have HM := Lib.hid hm'; have HPE := Lib.hid hP
  clear hP hm'
  go_wp2
  have hga := hY9.lt
  go_loopw [6, 36] (fun v i wr => ∃ k : Nat, k ≤ m ∧ i = .int .i64 k ∧ OwnS wr w9.heap.size v ((P.take k).map fun i => nth l i.toNat) ∧ Below w9.heap.size w9 wr) (fun _ i _ => m - (intOf i).toNat)
  case atStart => exact ⟨0, Nat.zero_le _, rfl, by rw [List.take_zero]; exact OwnS.nil _ _, Below.refl _ _⟩
  case round =>
    obtain ⟨k, hk, rfl, hO, hW⟩ := hrel
    by_cases hlt : k < m
    · obtain ⟨p, hp⟩ : ∃ p, P[k]? = some p := ⟨_, List.getElem?_eq_getElem (by rw [HM.out]; exact hlt)⟩
      have hpm := HPL.out p (List.mem_of_getElem? hp)
      obtain ⟨j, rfl, hj⟩ : ∃ j : Nat, p = (j : Int) ∧ j < n := by
        have := HN.out
        rcases hpm with h | h | h | h
        · exact ⟨0, h, by omega⟩
        · exact ⟨_, h, by omega⟩
        · exact ⟨_, h, by omega⟩
        · exact ⟨_, h, by omega⟩
      have hcell : wr.cell? ⟨ga, k, none⟩ = some (.int .i64 (j : Int)) := by
        rw [(hY9.step hW).cell k, ivl, List.map_append, List.getElem?_append_left (by rw [List.length_map, HM.out]; exact hlt), List.getElem?_map, hp]; rfl
      have HP := Lib.hid hp
      have hX := hX9.step hW
      have x0 := hX.cell 0
      simp only [List.getElem?_cons_zero] at x0
      have hww := hW.size
      have t1 : decide ((k : Int) < (m : Int)) = true := by simpa using hlt
      clear hpm hp
      iterate 3 go_step
      iterate 1 (with_reducible refine wpL_val (v := ?_) ?_ ?_ ?_; rotate_left; (· kernel_rfl); (· go_simp; try with_reducible rfl); conv => arg 5; simp only [Act.put, List.setIfInBounds_toArray, List.set_cons_zero, List.set_cons_succ])
      refine wpList_nil ?_
      iterate 11 go_step
      iterate 3 (with_reducible refine wpL_val (v := ?_) ?_ ?_ ?_; rotate_left; (· kernel_rfl); (· go_simp; try with_reducible rfl); conv => arg 5; simp only [Act.put, List.setIfInBounds_toArray, List.set_cons_zero, List.set_cons_succ])
      refine wpList_nil ?_
      iterate 3 go_step
      iterate 4 (with_reducible refine wpL_val (v := ?_) ?_ ?_ ?_; rotate_left; (· kernel_rfl); (· go_simp; try with_reducible rfl); conv => arg 5; simp only [Act.put, List.setIfInBounds_toArray, List.set_cons_zero, List.set_cons_succ])
      have hsp := nth_get (l := l) (k := j) (by have := HN.out; omega)
      have hat := HS.out.step hb (hW9.trans (hW.mono hW9.size)) j (nth l j) hsp
      refine wpL_at (l := [.int .i64 (nth l j).side, .int .i64 (nth l j).at_, .int .i64 (nth l j).p.x, .int .i64 (nth l j).p.y, .int .i64 (nth l j).p.z]) (by rfl) (by rfl) hat Try.underlying32 (by rfl) (by kernel_rfl) (by kernel_rfl) ?_
      conv => arg 5; simp only [Act.put, List.setIfInBounds_toArray, List.set_cons_zero, List.set_cons_succ]
      refine wpL_go (v := .slice (some ⟨wr.heap.size, 0, none⟩) 1 1) (w' := wr.alloc (.cells [.int .i64 (nth l j).side, .int .i64 (nth l j).at_, .int .i64 (nth l j).p.x, .int .i64 (nth l j).p.y, .int .i64 (nth l j).p.z].toArray 32)) (by kernel_rfl) (by go_simp) ?_
      conv => arg 5; simp only [Act.put, List.setIfInBounds_toArray, List.set_cons_zero, List.set_cons_succ]
      have hO1 := hO.step ((Below.refl wr.heap.size wr).alloc (Nat.le_refl _) (.cells [.int .i64 (nth l j).side, .int .i64 (nth l j).at_, .int .i64 (nth l j).p.x, .int .i64 (nth l j).p.y, .int .i64 (nth l j).p.z].toArray 32))
      refine wpList_append_own _ rfl (.tmp 40) (.tmp 45) 22 rfl w9.heap.size 32 i0 (.agg #[.int .i64 0, .int .i64 0, .int .i64 0, .int .i64 0, .int .i64 0]) 5 40 Try.underlying22 HI.out HZ.out HZ1.out HZ2.out rfl (by decide) u6 _ _ rfl hO1 ⟨wr.heap.size, 0, none⟩ 1 1 (spv (nth l j)) rfl rfl (fun i u hi => ?_) spv_one ?_ ?_ (by simp; omega) ?_
      · have hbx : Box (wr.alloc (.cells [.int .i64 (nth l j).side, .int .i64 (nth l j).at_, .int .i64 (nth l j).p.x, .int .i64 (nth l j).p.y, .int .i64 (nth l j).p.z].toArray 32)) wr.heap.size (spv (nth l j)) 32 := Box.new rfl
        have hadd : (⟨wr.heap.size, 0, none⟩ : Addr).add i = ⟨wr.heap.size, i, none⟩ := by unfold Addr.add; split <;> simp_all
        rw [hadd, hbx.cell i]; exact hi
      · simp only [List.length_map, List.length_take]; unfold maxLen; omega
      · simp only [List.length_map, List.length_take]; omega
      intro v' w10 hown hgrow hnil
      conv => arg 5; simp only [Act.put, List.setIfInBounds_toArray, List.set_cons_zero, List.set_cons_succ]
      iterate 1 (with_reducible refine wpL_val (v := ?_) ?_ ?_ ?_; rotate_left; (· kernel_rfl); (· go_simp; try with_reducible rfl); conv => arg 5; simp only [Act.put, List.setIfInBounds_toArray, List.set_cons_zero, List.set_cons_succ])
      refine wpList_nil ?_
      have hO2 : OwnS w10 w9.heap.size v' ((P.take (k + 1)).map fun i => nth l i.toNat) := by
        rw [PGr.take_snoc HP.out, List.map_append]
        unfold OwnS
        rw [spvs_append, List.length_append]
        exact hown
      have hW2 : Below w9.heap.size w9 w10 := (hW.alloc hww _).grown hgrow (by simp; omega) (ownBlock_ge hO1)
      clear hown hgrow hnil hO hO1 hW hX x0 hcell hat hsp
      go_wp2
      go_roundw
      case rel => exact ⟨k + 1, by omega, by go_num, hO2, hW2⟩
      case measure => simp [intOf]; omega
    · obtain rfl : k = m := by omega
      have hT : P.take k = P := List.take_of_length_le (by rw [HM.out]; exact Nat.le_refl _)
      rw [hT] at hO
      clear hT hlt
      go_wp2
      go_ret2
      rw [← HPE.out] at hO
      exact ⟨u6, rfl, hO.mono hW9.size, hW9.trans (hW.mono hW9.size)⟩
theorem patchC {A : Option Addr} {n : Nat} (cap : Nat) {l : List Spo} (w : World) (h : SlS w A n l) : RetP #[.slice A n cap] w (patchS l) (checkS l) := by
  by_cases hc : checkS l = 0
  · by_cases hn : n ≤ 4
    · rw [show patchS l = l by unfold patchS; rw [if_pos hc, if_pos (by rw [h.1]; exact hn)], hc]
      exact patchF w h hc hn
    · obtain ⟨b, off, rfl, hb, hs⟩ := h.2 (by omega)
      rw [show patchS l = (places l).map fun i => nth l i.toNat by unfold patchS; rw [if_pos hc, if_neg (by rw [h.1]; exact hn)], hc]
      exact patchG w hb hs h.1 hc (by omega)
  · rw [show patchS l = [] by unfold patchS; rw [if_neg hc]]
    exact patchE w h _ rfl hc
end PPa
end Go.Proofs.Ytbbiefgmlklafaa
