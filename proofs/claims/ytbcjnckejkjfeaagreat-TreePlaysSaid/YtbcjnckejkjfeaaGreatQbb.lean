/- The call Bound, done on both trees. Condition: the trees are as told. The document's new tree. No condition. How many binary digits a number has: the walk. Condition: the number is small. A tree's height, the same in every later world. Condition: the tree is there. An answer that the document fixes: the walk. No condition. Arguments that are bounds and points, opened. No condition. Arguments that are slices of bounds, opened. No condition. Arguments that are slices of calls, opened. No condition. -/
import Derived.Test.YtbcjnckejkjfeaaGreatQap
import Derived.Test.YtbcjnckejkjfeaaGreatQaj
import Derived.Test.YtbcjnckejkjfeaaGreatQac
import Derived.Lib.Hide
import Derived.Test.YtbcjnckejkjfeaaGreatQao
import Derived.Test.YtbcjnckejkjfeaaGreatQaw
import Derived.Test.YtbcjnckejkjfeaaGreatRows
import Derived.Test.YtbcjnckejkjfeaaGreatQaa
import Derived.WalkKit
import Derived.ProofKit
import Derived.OpenShut
import Derived.ShutString
import Derived.ChangeOld
import Derived.Below
import Derived.Deep.Slices
import Derived.Deep.Fields
import Derived.Lib.SmallJoins
import Derived.Test.YtbcjnckejkjfeaaGreatQae
namespace Go.Proofs.YtbcjnckejkjfeaaGreat
set_option linter.unusedVariables false
set_option linter.unusedSimpArgs false
open Go.RowKit Go.NP
namespace DPb
open TrW TrC TrA TrX TrE TrI TPu DSl DPl DTr
theorem cf27 (args : Array Value) (w1 : World) : (callFunc 27 args).run Tryz.prog w1 = .ok (.enter 27 args) w1 := enters Tryz.func27 (by kernel_rfl) (by kernel_rfl) args w1
set_option maxRecDepth 100000 in
set_option maxHeartbeats 4000000 in
theorem playBound {p t K : Nat} {mg q : Int} {x : Bd} {L : List En} {S P : Nat → Prop} (w : World) (hti : TI w p mg L S K) (hdt : DT w t mg L P) (hl : L.length ≤ 1000) (hq : QVm.wfI q) :
    RetB Tryz.prog 7 #[.pointer (some ⟨p, 0, none⟩), .pointer (some ⟨t, 0, none⟩), .agg [.int .i64 6, .int .i64 q, .int .i64 x.lo.x, .int .i64 x.lo.y, .int .i64 x.lo.z, .int .i64 x.hi.x, .int .i64 x.hi.y, .int .i64 x.hi.z].toArray] w (.bool true) := by
  have hb : Below w.heap.size w (w.alloc (.cells [.int .i64 6, .int .i64 q, .int .i64 x.lo.x, .int .i64 x.lo.y, .int .i64 x.lo.z, .int .i64 x.hi.x, .int .i64 x.hi.y, .int .i64 x.hi.z].toArray 40)) := (Below.refl _ _).alloc (Nat.le_refl _) _
  have hB : Box (w.alloc (.cells [.int .i64 6, .int .i64 q, .int .i64 x.lo.x, .int .i64 x.lo.y, .int .i64 x.lo.z, .int .i64 x.hi.x, .int .i64 x.hi.y, .int .i64 x.hi.z].toArray 40)) w.heap.size [.int .i64 6, .int .i64 q, .int .i64 x.lo.x, .int .i64 x.lo.y, .int .i64 x.lo.z, .int .i64 x.hi.x, .int .i64 x.hi.y, .int .i64 x.hi.z] 40 := Box.new rfl
  obtain ⟨A, cap, hd, _⟩ := hdt
  have HD := Lib.hid (hd.step hb)
  have hr := hti.rise
  have HL := Lib.hid hl
  have HR := Lib.hid hr
  have c1 := hB.cell 1
  simp only [List.getElem?_cons_zero, List.getElem?_cons_succ] at c1
  have HB := Lib.hid hB; have HBB := Lib.hid hb
  obtain ⟨y, hy⟩ : ∃ y, DBo.bndOf L q = y := ⟨_, rfl⟩
  obtain ⟨bi, hbi⟩ : ∃ bi, isIn L q = bi := ⟨_, rfl⟩
  have C1 := Lib.hid (DBo.boundC _ (hti.step hb) hq)
  have HY := Lib.hid hy; have HI := Lib.hid hbi
  rw [hy, hbi] at C1
  clear hti hl hB hb hd hr hy hbi
  unfold RetB
  go_enter Tryz.func7, Tryz.ntmps7
  go_wp2_with fail
  refine Calls.mono C1.out ?_
  rintro e w2 ⟨rfl, hb2⟩
  have HD2 := Lib.hid (HD.out.step hb2)
  have HB2 := Lib.hid (HB.out.step hb2)
  have HW := Lib.hid (HBB.out.trans (hb2.mono HBB.out.size))
  clear hb2 HD HB HBB C1 c1
  go_wp2_with (refine wpL_store (cs := [.int .i64 y.lo.x, .int .i64 y.lo.y, .int .i64 y.lo.z, .int .i64 y.hi.x, .int .i64 y.hi.y, .int .i64 y.hi.z]) (by rfl) (by rfl) (by rfl) (Box.new (l := [.int .i64 0, .int .i64 0, .int .i64 0, .int .i64 0, .int .i64 0, .int .i64 0]) rfl) (by kernel_rfl) (by rfl) (by simp [Value.oneCell']) (by kernel_rfl) ?_; (conv => arg 5; simp only [Act.put, List.setIfInBounds_toArray, List.set_cons_zero, List.set_cons_succ]))
  have hS3 : Below w2.heap.size w2 (w2.alloc (.cells [.int .i64 0, .int .i64 0, .int .i64 0, .int .i64 0, .int .i64 0, .int .i64 0].toArray 38)) := (Below.refl _ _).alloc (Nat.le_refl _) _
  have hB3 : Box (w2.alloc (.cells [.int .i64 0, .int .i64 0, .int .i64 0, .int .i64 0, .int .i64 0, .int .i64 0].toArray 38)) w2.heap.size [.int .i64 0, .int .i64 0, .int .i64 0, .int .i64 0, .int .i64 0, .int .i64 0] 38 := Box.new rfl
  have hS4 := below_row hS3 (Nat.le_refl _) [.int .i64 y.lo.x, .int .i64 y.lo.y, .int .i64 y.lo.z, .int .i64 y.hi.x, .int .i64 y.hi.y, .int .i64 y.hi.z].toArray
  have hB4 := hB3.row [.int .i64 y.lo.x, .int .i64 y.lo.y, .int .i64 y.lo.z, .int .i64 y.hi.x, .int .i64 y.hi.y, .int .i64 y.hi.z]
  have HS4 := Lib.hid hS4
  have HB4 := Lib.hid hB4
  have HBB4 := Lib.hid (HB2.out.step hS4)
  have HD4 := Lib.hid (HD2.out.step hS4)
  have HW4 := Lib.hid (HW.out.trans (hS4.mono HW.out.size))
  clear hS3 hB3 hS4 hB4 HB2 HD2 HW
  revert HS4 HB4 HBB4 HD4 HW4
  generalize (w2.alloc (.cells [.int .i64 0, .int .i64 0, .int .i64 0, .int .i64 0, .int .i64 0, .int .i64 0].toArray 38)).setRow w2.heap.size [.int .i64 y.lo.x, .int .i64 y.lo.y, .int .i64 y.lo.z, .int .i64 y.hi.x, .int .i64 y.hi.y, .int .i64 y.hi.z].toArray = w4
  intro HS4 HB4 HBB4 HD4 HW4
  have d1 := HBB4.out.cell 1
  simp only [List.getElem?_cons_zero, List.getElem?_cons_succ] at d1
  have hg4 : w.heap.size < w4.heap.size := HBB4.out.lt
  have O := Lib.hid (fun (w1 : World) (hS : Below w4.heap.size w4 w1) => (show RetB Tryz.prog 27 #[.agg #[.int .i64 mg, .slice A L.length cap], .int .i64 q] w1 (.tuple #[.agg #[.int .i64 y.lo.x, .int .i64 y.lo.y, .int .i64 y.lo.z, .int .i64 y.hi.x, .int .i64 y.hi.y, .int .i64 y.hi.z], .bool bi]) from by
    have := DBo.rboundC (q := q) cap mg w1 (HD4.out.step hS).sl HR.out (by have := HL.out; omega)
    rw [HY.out, HI.out] at this; exact this))
  clear HY HI HR
  refine wp_region_ph [(10, .fre [9] [8])] (by kernel_rfl) (by kernel_rfl) ?_
  refine Ph.eagerd [(9, [.int .i64 0, .int .i64 0, .int .i64 0, .int .i64 0, .int .i64 0, .int .i64 0], 38)] (by rfl) (fun d c a v w h => by cases d <;> exact h) ?_
  simp only [List.drop_succ_cons, List.drop_zero, List.take_succ_cons, List.take_zero, Nat.reduceSub, Nat.sub_zero]
  iterate 2 (refine SeqO.val (v := ?_) (by rfl) (by rfl) (fun w1 hS => ?_) ?_; rotate_left; (· obtain ⟨hc, hcf⟩ := bcell hS; go_simp; try with_reducible rfl); simp only [Act.put, List.setIfInBounds_toArray, List.set_cons_zero, List.set_cons_succ])
  refine SeqO.row (l := [.int .i64 mg, .slice A L.length cap]) (by rfl) (by rfl) HD4.out.bx Tryz.underlying30 (by rfl) (by kernel_rfl) (by rfl) (by rfl) ?_
  simp only [Act.put, List.setIfInBounds_toArray, List.set_cons_zero, List.set_cons_succ]
  iterate 2 (refine SeqO.val (v := ?_) (by rfl) (by rfl) (fun w1 hS => ?_) ?_; rotate_left; (· obtain ⟨hc, hcf⟩ := bcell hS; go_simp; try with_reducible rfl); simp only [Act.put, List.setIfInBounds_toArray, List.set_cons_zero, List.set_cons_succ])
  refine SeqO.callv (by rfl) (by rfl) (by rfl) cf27 (by simp [Act.eval]) (fun w1 hS => O.out w1 hS) ?_
  simp only [Act.put, List.setIfInBounds_toArray, List.set_cons_zero, List.set_cons_succ]
  iterate 2 (refine SeqO.val (v := ?_) (by rfl) (by rfl) (fun w1 hS => ?_) ?_; rotate_left; (· obtain ⟨hc, hcf⟩ := bcell hS; go_simp; try with_reducible rfl); simp only [Act.put, List.setIfInBounds_toArray, List.set_cons_zero, List.set_cons_succ])
  refine SeqO.eager (v := ?_) (by rfl) (by rfl) (fun w1 => ?_) ?_; rotate_left; (· go_simp; try with_reducible rfl); simp only [Act.put, List.setIfInBounds_toArray, List.set_cons_zero, List.set_cons_succ]
  refine SeqO.alloc (cs := [.int .i64 0, .int .i64 0, .int .i64 0, .int .i64 0, .int .i64 0, .int .i64 0]) (Ty := 38) (by rfl) ⟨38, by simp⟩ (by rfl) (by simp) (by rfl) (fun w => by go_simp) ?_
  refine SeqO.nil fun LL u w3 hL hK => ?_
  obtain ⟨g, hg, hge, hbx⟩ := hK.made _ (List.mem_cons_self) (hL 9 (by omega))
  have hS := hK.below
  clear hK hL
  simp only [List.nil_append, List.foldl_cons, List.foldl_nil, hg]
  refine Ph.last ?_
  simp only [List.drop_succ_cons, List.drop_zero, List.take_succ_cons, List.take_zero, Nat.reduceSub, Nat.sub_zero]
  clear hg
  have hP : Box w3 g [.int .i64 0, .int .i64 0, .int .i64 0, .int .i64 0, .int .i64 0, .int .i64 0] 38 := hbx
  have hge : w4.heap.size ≤ g := hge
  have hg2 : w2.heap.size < w4.heap.size := HB4.out.lt
  have HA := Lib.hid (HB4.out.step hS)
  have HW5 := Lib.hid (HW4.out.trans (hS.mono HW4.out.size))
  have HW6 := Lib.hid (below_setRow HW5.out (g := g) (by have := HW4.out.size; omega) [.int .i64 y.lo.x, .int .i64 y.lo.y, .int .i64 y.lo.z, .int .i64 y.hi.x, .int .i64 y.hi.y, .int .i64 y.hi.z].toArray)
  refine wpL_store (cs := [.int .i64 y.lo.x, .int .i64 y.lo.y, .int .i64 y.lo.z, .int .i64 y.hi.x, .int .i64 y.hi.y, .int .i64 y.hi.z]) (by rfl) (by rfl) (by rfl) hP (by kernel_rfl) (by rfl) (by simp [Value.oneCell']) (by kernel_rfl) ?_
  conv => arg 5; simp only [Act.put, List.setIfInBounds_toArray, List.set_cons_zero, List.set_cons_succ]
  have hP2 := hP.row [.int .i64 y.lo.x, .int .i64 y.lo.y, .int .i64 y.lo.z, .int .i64 y.hi.x, .int .i64 y.hi.y, .int .i64 y.hi.z]
  have hA2 := HA.out.rowOther (g := g) (by omega) [.int .i64 y.lo.x, .int .i64 y.lo.y, .int .i64 y.lo.z, .int .i64 y.hi.x, .int .i64 y.hi.y, .int .i64 y.hi.z].toArray
  clear HA hP hbx HW5 HS4 HBB4 HD4 HW4 O
  revert hP2 hA2 HW6
  generalize w3.setRow g [.int .i64 y.lo.x, .int .i64 y.lo.y, .int .i64 y.lo.z, .int .i64 y.hi.x, .int .i64 y.hi.y, .int .i64 y.hi.z].toArray = w5
  intro HW6 hP2 hA2
  have u1 : (bi == bi) = true := by simp
  iterate 1 (with_reducible refine wpL_val (v := ?_) ?_ ?_ ?_; rotate_left; (· kernel_rfl); (· go_simp; try with_reducible rfl); conv => arg 5; simp only [Act.put, List.setIfInBounds_toArray, List.set_cons_zero, List.set_cons_succ])
  refine wpList_nil ?_
  go_wp2_with (first | (refine wpL_load (l := [.int .i64 y.lo.x, .int .i64 y.lo.y, .int .i64 y.lo.z, .int .i64 y.hi.x, .int .i64 y.hi.y, .int .i64 y.hi.z]) (by rfl) (by rfl) hP2 Tryz.underlying38 (by rfl) (by kernel_rfl) (by kernel_rfl) ?_; (conv => arg 5; simp only [Act.put, List.setIfInBounds_toArray, List.set_cons_zero, List.set_cons_succ])) | (refine wpL_load (l := [.int .i64 y.lo.x, .int .i64 y.lo.y, .int .i64 y.lo.z, .int .i64 y.hi.x, .int .i64 y.hi.y, .int .i64 y.hi.z]) (by rfl) (by rfl) hA2 Tryz.underlying38 (by rfl) (by kernel_rfl) (by kernel_rfl) ?_; (conv => arg 5; simp only [Act.put, List.setIfInBounds_toArray, List.set_cons_zero, List.set_cons_succ])))
  exact bodyPost_ret (v := .bool true) (by simp [results, Tryz.results7, go_sem]) rfl ⟨rfl, HW6⟩
end DPb
end Go.Proofs.YtbcjnckejkjfeaaGreat
namespace Go.Proofs.YtbcjnckejkjfeaaGreat
set_option linter.unusedVariables false
set_option linter.unusedSimpArgs false
open Go.RowKit Go.NP
namespace DNe
open TrA DBo
set_option maxRecDepth 100000 in
set_option maxHeartbeats 2000000 in
theorem rnewC (mg : Int) (w : World) (h : 0 ≤ mg ∧ mg ≤ 1048576) : RetB Tryz.prog 6 #[.int .i64 mg] w (.tuple #[.agg #[.int .i64 mg, .slice none 0 0], .int .i64 0]) := by
  have hb : Below w.heap.size w (w.alloc (.cells #[.int .i64 0, .slice none 0 0] 30)) := (Below.refl _ _).alloc (Nat.le_refl _) _
  have hB : Box (w.alloc (.cells #[.int .i64 0, .slice none 0 0] 30)) w.heap.size [.int .i64 0, .slice none 0 0] 30 := Box.new rfl
  have t1 : decide (mg < 0) = false := decide_eq_false (by omega)
  have t2 : decide (1048576 < mg) = false := decide_eq_false (by omega)
  clear h
  unfold RetB
  go_enter Tryz.func6, Tryz.ntmps6
  go_wp2_with (refine wpL_store (cs := [.int .i64 mg, .slice none 0 0]) (by rfl) (by rfl) (by rfl) hB (by kernel_rfl) (by rfl) (by simp [Value.oneCell']) (by kernel_rfl) ?_; (conv => arg 5; simp only [Act.put, List.setIfInBounds_toArray, List.set_cons_zero, List.set_cons_succ]))
  exact bodyPost_ret (v := .tuple #[.agg #[.int .i64 mg, .slice none 0 0], .int .i64 0]) (results_two Tryz.results6 _ _ _ _ _ _ _ (by rfl) (hB.row _) Tryz.underlying30 (by rfl) (by kernel_rfl)) rfl ⟨rfl, below_row hb (Nat.le_refl _) _⟩
set_option maxRecDepth 100000 in
set_option maxHeartbeats 2000000 in
theorem rnewNo (mg : Int) (w : World) (h : ¬ (0 ≤ mg ∧ mg ≤ 1048576)) : RetB Tryz.prog 6 #[.int .i64 mg] w (.tuple #[.agg #[.int .i64 0, .slice none 0 0], .int .i64 2]) := by
  have hb : Below w.heap.size w (w.alloc (.cells #[.int .i64 0, .slice none 0 0] 30)) := (Below.refl _ _).alloc (Nat.le_refl _) _
  have hB : Box (w.alloc (.cells #[.int .i64 0, .slice none 0 0] 30)) w.heap.size [.int .i64 0, .slice none 0 0] 30 := Box.new rfl
  unfold RetB
  by_cases h1 : mg < 0
  · have t1 : decide (mg < 0) = true := decide_eq_true h1
    clear h h1
    go_enter Tryz.func6, Tryz.ntmps6
    go_wp2_with (refine wpL_store (cs := [.int .i64 0, .slice none 0 0]) (by rfl) (by rfl) (by rfl) hB (by kernel_rfl) (by rfl) (by simp [Value.oneCell']) (by kernel_rfl) ?_; (conv => arg 5; simp only [Act.put, List.setIfInBounds_toArray, List.set_cons_zero, List.set_cons_succ]))
    exact bodyPost_ret (v := .tuple #[.agg #[.int .i64 0, .slice none 0 0], .int .i64 2]) (results_two Tryz.results6 _ _ _ _ _ _ _ (by rfl) (hB.row _) Tryz.underlying30 (by rfl) (by kernel_rfl)) rfl ⟨rfl, below_row hb (Nat.le_refl _) _⟩
  · have t1 : decide (mg < 0) = false := decide_eq_false h1
    have t2 : decide (1048576 < mg) = true := decide_eq_true (by omega)
    clear h h1
    go_enter Tryz.func6, Tryz.ntmps6
    go_wp2_with (refine wpL_store (cs := [.int .i64 0, .slice none 0 0]) (by rfl) (by rfl) (by rfl) hB (by kernel_rfl) (by rfl) (by simp [Value.oneCell']) (by kernel_rfl) ?_; (conv => arg 5; simp only [Act.put, List.setIfInBounds_toArray, List.set_cons_zero, List.set_cons_succ]))
    exact bodyPost_ret (v := .tuple #[.agg #[.int .i64 0, .slice none 0 0], .int .i64 2]) (results_two Tryz.results6 _ _ _ _ _ _ _ (by rfl) (hB.row _) Tryz.underlying30 (by rfl) (by kernel_rfl)) rfl ⟨rfl, below_row hb (Nat.le_refl _) _⟩
end DNe
end Go.Proofs.YtbcjnckejkjfeaaGreat
namespace Go.Proofs.YtbcjnckejkjfeaaGreat
set_option linter.unusedVariables false
set_option linter.unusedSimpArgs false
open Go.RowKit Go.NP
namespace DDg
open TNw
def digN (n : Nat) : Nat := if h : n = 0 then 0 else digN (n / 2) + 1
termination_by n
decreasing_by omega
theorem dig_lt (n : Nat) : n < 2 ^ digN n := by
  induction n using Nat.strongRecOn with
  | ind n ih =>
    unfold digN
    split
    · rename_i h; subst h; decide
    · rename_i h
      have := ih (n / 2) (by omega)
      rw [Nat.pow_succ]; omega
theorem dig_hgt {n : Nat} {h : Int} (hh : HgtOK n h) : 0 ≤ h ∧ h ≤ 2 * (digN n : Int) ∧ (n < 2 → h = 0) := by
  obtain ⟨h0, h1, h2⟩ := hh
  refine ⟨h0, ?_, h1⟩
  rcases Nat.eq_zero_or_pos n with hn | hn
  · rw [h1 (by omega)]; omega
  · have h3 := h2 hn
    have h4 := dig_lt n
    have h5 : (h.toNat + 1) / 2 < digN n := (Nat.pow_lt_pow_iff_right (by decide : 1 < 2)).1 (by omega)
    omega
theorem dig_le (n : Nat) : digN n ≤ n := by
  induction n using Nat.strongRecOn with
  | ind n ih =>
    unfold digN
    split
    · omega
    · have := ih (n / 2) (by omega); omega
set_option maxRecDepth 100000 in
set_option maxHeartbeats 2000000 in
theorem digC {n : Nat} (w : World) (hn : n ≤ 100000) : RetB Tryz.prog 10 #[.int .i64 (n : Int)] w (.int .i64 (digN n : Nat)) := by
  obtain ⟨d, hd⟩ : ∃ d, digN n = d := ⟨_, rfl⟩
  have hdl : d ≤ 100000 := by rw [← hd]; exact Nat.le_trans (dig_le n) hn
  have HD := Lib.hid hd
  rw [hd]
  clear hd
  unfold RetB
  go_enter Tryz.func10, Tryz.ntmps10
  go_wp2_with fail
  go_loopw [0, 3] (fun i k wr => ∃ (m j : Nat), i = .int .i64 (m : Int) ∧ k = .int .i64 (j : Int) ∧ m ≤ n ∧ j + digN m = d ∧ Below w.heap.size w wr) (fun i _ _ => (RowKit.intOf i).toNat)
  case atStart => exact ⟨n, 0, rfl, rfl, Nat.le_refl _, by rw [HD.out]; omega, Below.refl _ _⟩
  case round =>
    obtain ⟨m, j, rfl, rfl, hm, hj, hS⟩ := hrel
    rcases Nat.eq_zero_or_pos m with h0 | h0
    · subst h0
      have : digN 0 = 0 := by unfold digN; rfl
      obtain rfl : j = d := by omega
      go_wp2_with fail
      exact bodyPost_ret (v := .int .i64 (j : Int)) (by simp [results, Tryz.results10, go_sem]) rfl ⟨rfl, hS⟩
    · have t1 : decide ((0 : Int) < (m : Int)) = true := by simpa using h0
      have hj2 : (j + 1) + digN (m / 2) = d := by
        have : digN m = digN (m / 2) + 1 := by rw [digN, dif_neg (by omega)]
        omega
      have v1 : IntKind.i64.wrap ((j : Int) + 1) = ((j + 1 : Nat) : Int) := by rw [IntKind.wrap_i64]; omega
      have v2 : (m : Int).tdiv 2 = ((m / 2 : Nat) : Int) := rfl
      have v3 : IntKind.i64.wrap ((m / 2 : Nat) : Int) = ((m / 2 : Nat) : Int) := by rw [IntKind.wrap_i64]; omega
      have HJ := Lib.hid hj2
      clear hj2 hj
      go_wp2_with fail
      exact ⟨⟨m / 2, j + 1, rfl, rfl, by omega, HJ.out, hS⟩, by simp [RowKit.intOf]; omega⟩
end DDg
end Go.Proofs.YtbcjnckejkjfeaaGreat
namespace Go.Proofs.YtbcjnckejkjfeaaGreat
set_option linter.unusedVariables false
set_option linter.unusedSimpArgs false
open Go.RowKit Go.NP
namespace DHt
open TrP TrW TrC TrA TrX TrE TrI TNw
set_option maxRecDepth 100000 in
set_option maxHeartbeats 2000000 in
theorem heightE {p K : Nat} {mg : Int} {L : List En} {S : Nat → Prop} (w : World) (h : TI w p mg L S K) : ∃ v, HgtOK L.length v ∧ ∀ w1, Below w.heap.size w w1 → RetB Tryz.prog 9 #[.pointer (some ⟨p, 0, none⟩)] w1 (.int .i64 v) := by
  obtain ⟨T, F, al, lv, b, c, pl, h, rfl⟩ := h
  obtain rfl := h.p_
  have hl := ti_len h
  rcases h.ts.sh with ⟨h1, h2, h3⟩ | ⟨s, h1, h2, h3, h4, h5, h6⟩
  · have hL : L.length = 0 := by rw [← hl, h3]; rfl
    refine ⟨0, ⟨Int.le_refl _, fun _ => rfl, fun q => by omega⟩, fun w1 hS => ?_⟩
    have h' := h.step hS
    have c0 := TO.madec h'.ts.tx.to
    have c4 := TO.topc h'.ts.tx.to
    have hp := h'.lt
    rw [h1] at c4
    have u1 : ((-1 : Int) == -1) = true := by decide
    clear h h'
    unfold RetB
    go_enter Tryz.func9, Tryz.ntmps9
    go_wp2_with fail
    exact bodyPost_ret (v := .int .i64 0) (by simp [results, Tryz.results9, go_sem]) rfl ⟨rfl, Below.refl _ _⟩
  · refine ⟨s.hgt, by rw [← hl, ← h6.length_eq]; exact hgt_ok h3, fun w1 hS => ?_⟩
    have h' := h.step hS
    have c0 := TO.madec h'.ts.tx.to
    have c4 := TO.topc h'.ts.tx.to
    have hp := h'.lt
    have hr := h.ts.rng s.ix (List.mem_append_left _ (h5.mem_iff.1 s.ix_all))
    obtain ⟨k, hk⟩ : ∃ n : Nat, s.ix = n := ⟨s.ix.toNat, by omega⟩
    rw [h4, hk] at c4
    have u1 : ((k : Int) == -1) = false := by simp only [beq_eq_false_iff_ne, ne_eq]; omega
    have hT : TN w1 T := by
      rcases h'.ts.tx.to with ⟨q, _⟩ | q
      · omega
      · exact q
    have kN : k < T.N := by omega
    have c2 := hT.nodes
    have ch := hT.cell kN (j := 16) rfl
    have hg : (T.m k).h = s.hgt := by rw [← hk]; exact Fit.hgt h2
    rw [hg] at ch
    have k0 : 0 ≤ (k : Int) ∧ (k : Int) < T.N := by omega
    have hgl := (TN.lt hT).2
    clear h h' hT h1 h2 h3 h5 h6 hS
    unfold RetB
    go_enter Tryz.func9, Tryz.ntmps9
    go_wp2_with fail
    refine wp_region_ph [(11, .free [])] (by kernel_rfl) (by kernel_rfl) ?_
    refine Ph.belowd ?_
    simp only [List.drop_succ_cons, List.drop_zero, List.take_succ_cons, List.take_zero, Nat.reduceSub, Nat.sub_zero]
    iterate 11 (refine SeqO.val (v := ?_) (by rfl) (by rfl) (fun w1 hS => ?_) ?_; rotate_left; (· obtain ⟨hc, hcf⟩ := bcell hS; go_simp; try with_reducible rfl); simp only [Act.put, List.setIfInBounds_toArray, List.set_cons_zero, List.set_cons_succ])
    refine SeqO.nil0 fun w2 hS2 => ?_
    refine Ph.last ?_
    simp only [List.drop_succ_cons, List.drop_zero, List.take_succ_cons, List.take_zero, Nat.reduceSub, Nat.sub_zero]
    go_wp2_with fail
    exact bodyPost_ret (v := .int .i64 s.hgt) (by simp [results, Tryz.results9, go_sem]) rfl ⟨rfl, hS2⟩
end DHt
end Go.Proofs.YtbcjnckejkjfeaaGreat
namespace Go.Proofs.YtbcjnckejkjfeaaGreat
set_option linter.unusedVariables false
set_option linter.unusedSimpArgs false
open Go.RowKit Go.NP
namespace TAw
open TrX QVl TrE TrI TPu TSt TNw TMe TPp TPr
def cubeS (l h : Int) : Bd := ⟨⟨l, l, l⟩, ⟨h, h, h⟩⟩
set_option maxRecDepth 100000 in
set_option maxHeartbeats 2000000 in
theorem cubeC (l h : Int) (w : World) : RetB Tryz.prog 15 #[.int .i64 l, .int .i64 h] w (.agg #[.int .i64 (cubeS l h).lo.x, .int .i64 (cubeS l h).lo.y, .int .i64 (cubeS l h).lo.z, .int .i64 (cubeS l h).hi.x, .int .i64 (cubeS l h).hi.y, .int .i64 (cubeS l h).hi.z]) := by
  unfold RetB
  go_enter Tryz.func15, Tryz.ntmps15
  go_wp2_with fail
  exact bodyPost_ret (v := .agg #[.int .i64 (cubeS l h).lo.x, .int .i64 (cubeS l h).lo.y, .int .i64 (cubeS l h).lo.z, .int .i64 (cubeS l h).hi.x, .int .i64 (cubeS l h).hi.y, .int .i64 (cubeS l h).hi.z]) (by simp [results, Tryz.results15, go_sem, cubeS, *]) rfl ⟨rfl, (Below.refl _ _).alloc (Nat.le_refl _) _⟩
def L0 : List En := putL 1 (putL 1 (putL 1 [] 1 (cubeS 0 2)) 2 (cubeS 2 3)) 3 (cubeS 9 9)
theorem e1 : putE [] 1 (cubeS 0 2) = 0 := by decide
theorem e2 : putE (putL 1 [] 1 (cubeS 0 2)) 2 (cubeS 2 3) = 0 := by decide
theorem e3 : putE (putL 1 (putL 1 [] 1 (cubeS 0 2)) 2 (cubeS 2 3)) 3 (cubeS 9 9) = 0 := by decide
theorem l3 : L0.length = 3 := by decide
theorem p3 : pairsP L0 = [⟨1, 2⟩] := by decide
theorem m3 : meetL L0 (cubeS 1 9) = [1, 2, 3] ∧ errIf (cubeS 1 9).ok = 0 := by decide
theorem s3 : setM L0 3 (cubeS 10 10) = false ∧ setE L0 3 (cubeS 10 10) = 0 := by decide
theorem s4 : setM (setL 1 L0 3 (cubeS 10 10)) 3 (cubeS 11 11) = true ∧ setE (setL 1 L0 3 (cubeS 10 10)) 3 (cubeS 11 11) = 0 := by decide
theorem put1 {p K : Nat} {L : List En} {S : Nat → Prop} {n : Int} {x : Bd} (w : World) (h : TI w p 1 L S K) (hK : K < 80000) (he : putE L n x = 0) : Calls Tryz.prog 14 #[.pointer (some ⟨p, 0, none⟩), .int .i64 n, .agg #[.int .i64 x.lo.x, .int .i64 x.lo.y, .int .i64 x.lo.z, .int .i64 x.hi.x, .int .i64 x.hi.y, .int .i64 x.hi.z]] w fun e w' => e = .returned (.int .i64 0) ∧ ∃ S', TI w' p 1 (putL 1 L n x) S' (K + 4) ∧ Aft2 w w' S S' := by
  have := putC (n := n) (x := x) w h hK
  rw [he] at this; exact this
/-- What is turned lies in new blocks. -/
structure New (w0 w : World) (S : Nat → Prop) : Prop where
  bel : Below w0.heap.size w0 w
  new : ∀ k, S k → w0.heap.size ≤ k
theorem New.aft {w0 w w' : World} {S S' : Nat → Prop} (h : New w0 w S) (k : Aft2 w w' S S') : New w0 w' S' :=
  ⟨k.fr.below h.new h.bel h.bel.size, fun j hj => (k.ow j hj).elim (h.new j) fun q => by have := h.bel.size; omega⟩
theorem New.step {w0 w w' : World} {S : Nat → Prop} (h : New w0 w S) (k : Below w.heap.size w w') : New w0 w' S := ⟨h.bel.trans (k.mono h.bel.size), h.new⟩
set_option maxRecDepth 100000 in
set_option maxHeartbeats 4000000 in
theorem awakeC (w : World) : RetB Tryz.prog 4 #[] w (.bool true) := by
  unfold RetB
  go_enter Tryz.func4, Tryz.ntmps4
  go_wp2_with fail
  refine (newC (mg := 1) w (by omega)).mono ?_
  rintro e w1 ⟨p, S1, rfl, h1, hs1, hb1⟩
  have n1 : New w w1 S1 := ⟨hb1, hs1⟩
  clear hs1 hb1
  go_wp2_with fail
  refine (cubeC 0 2 w1).mono ?_
  rintro e w2 ⟨rfl, hb⟩
  have h2 := h1.step hb
  have n2 := n1.step hb
  clear h1 n1 hb
  go_wp2_with fail
  refine (put1 (x := cubeS 0 2) w2 h2 (by omega) e1).mono ?_
  rintro e w3 ⟨rfl, S3, h3, a3⟩
  have n3 := n2.aft a3
  clear h2 n2 a3
  go_wp2_with fail
  refine (cubeC 2 3 w3).mono ?_
  rintro e w4 ⟨rfl, hb⟩
  have h4 := h3.step hb
  have n4 := n3.step hb
  clear h3 n3 hb
  go_wp2_with fail
  refine (put1 (x := cubeS 2 3) w4 h4 (by omega) e2).mono ?_
  rintro e w5 ⟨rfl, S5, h5, a5⟩
  have n5 := n4.aft a5
  clear h4 n4 a5
  go_wp2_with fail
  refine (cubeC 9 9 w5).mono ?_
  rintro e w6 ⟨rfl, hb⟩
  have h6 := h5.step hb
  have n6 := n5.step hb
  clear h5 n5 hb
  go_wp2_with fail
  refine (put1 (x := cubeS 9 9) w6 h6 (by omega) e3).mono ?_
  rintro e w7 ⟨rfl, S7, h7, a7⟩
  have n7 := n6.aft a7
  have h7 : TI w7 p 1 L0 S7 (0 + 4 + 4 + 4) := h7
  clear h6 n6 a7
  go_wp2_with fail
  refine (pairsC w7 h7 (by omega) (by rw [l3]; omega)).mono ?_
  rintro e w8 ⟨⟨pv, rfl, hpv⟩, hb⟩
  rw [p3] at hpv
  have h8 := h7.step hb
  have n8 := n7.step hb
  have HB7 := Lib.hid hb.size
  obtain ⟨g, cap, rfl, hge, hgl, hsl⟩ : ∃ g cap, pv = .slice (some ⟨g, 0, none⟩) 1 cap ∧ w7.heap.size ≤ g ∧ g < w8.heap.size ∧ At' w8 g 0 (prv ⟨1, 2⟩) := by
    rcases hpv.2 with ⟨_, q⟩ | ⟨g, cap, cur, e, q1, q2, _⟩
    · cases q
    · obtain ⟨A, cap', e', q3⟩ := hpv.sl
      rw [e] at e'
      injection e' with e1 e2 e3
      obtain ⟨b, off, e4, _, q5⟩ := q3.2 (by decide)
      rw [← e1] at e4
      cases e4
      exact ⟨g, cap, e, q1, (Array.getElem?_eq_some_iff.1 q2).1, q5 0 _ rfl⟩
  have HNS := Lib.hid (fun k (hk : S7 k) => (show k ≠ g from by have := h7.lt k hk; omega))
  clear h7 n7 hb hpv
  go_wp2_with fail
  refine (cubeC 1 9 w8).mono ?_
  rintro e w9 ⟨rfl, hb⟩
  have h9 := h8.step hb
  have n9 := n8.step hb
  have s9 := hsl.step hgl hb
  have g9 : g < w9.heap.size := by have := hb.size; omega
  clear h8 n8 hsl hb hgl
  go_wp2_with fail
  refine (tmeetC (x := cubeS 1 9) w9 h9 (by omega)).mono ?_
  rintro e w10 ⟨⟨mv, rfl, hmv⟩, hb⟩
  rw [m3.1] at hmv
  rw [m3.2]
  have h10 := h9.step hb
  have n10 := n9.step hb
  have s10 := s9.step g9 hb
  have g10 : g < w10.heap.size := by have := hb.size; omega
  clear h9 n9 s9 hb g9
  obtain ⟨A2, cap2, rfl, _, _, _⟩ := hmv.sl
  clear hmv
  go_wp2_with fail
  refine (cubeC 10 10 w10).mono ?_
  rintro e w11 ⟨rfl, hb⟩
  have h11 := h10.step hb
  have n11 := n10.step hb
  have s11 := s10.step g10 hb
  have g11 : g < w11.heap.size := by have := hb.size; omega
  clear h10 n10 s10 hb g10
  go_wp2_with fail
  refine (setC (x := cubeS 10 10) w11 h11 (by omega)).mono ?_
  rintro e w12 ⟨rfl, S12, h12, a12⟩
  rw [s3.1, s3.2]
  have s12 : At' w12 g 0 (prv ⟨1, 2⟩) := fun j v hv => by
    rw [World.cell?_of_block (a12.fr.block g g11 fun q => HNS.out g q rfl)]; exact s11 j v hv
  have g12 : g < w12.heap.size := by have := a12.fr.size; omega
  have N12 := Lib.hid (fun (q : S12 g) => (show False from (a12.ow g q).elim (fun r => HNS.out g r rfl) (fun r => by omega)))
  have n12 := n11.aft a12
  clear h11 n11 s11 a12 g11
  go_wp2_with fail
  refine (cubeC 11 11 w12).mono ?_
  rintro e w13 ⟨rfl, hb⟩
  have h13 := h12.step hb
  have n13 := n12.step hb
  have s13 := s12.step g12 hb
  have g13 : g < w13.heap.size := by have := hb.size; omega
  clear h12 n12 s12 hb g12
  go_wp2_with fail
  refine (setC (x := cubeS 11 11) w13 h13 (by omega)).mono ?_
  rintro e w14 ⟨rfl, S14, h14, a14⟩
  rw [s4.1, s4.2]
  have s14 : At' w14 g 0 (prv ⟨1, 2⟩) := fun j v hv => by
    rw [World.cell?_of_block (a14.fr.block g g13 N12.out)]; exact s13 j v hv
  have n14 := n13.aft a14
  clear h13 n13 s13 a14 g13 h14
  have eiv : (iv [1, 2, 3]).length = 3 := rfl
  rw [eiv]
  go_wp2_with (refine wpL_at (l := [.int .i64 1, .int .i64 2]) (by rfl) (by rfl) s14 Tryz.underlying56 (by rfl) (by kernel_rfl) (by kernel_rfl) ?_; (conv => arg 5; simp only [Act.put, List.setIfInBounds_toArray, List.set_cons_zero, List.set_cons_succ]))
  exact bodyPost_ret (v := .bool true) (by simp [results, Tryz.results4, go_sem]) rfl ⟨rfl, n14.bel⟩
end TAw
end Go.Proofs.YtbcjnckejkjfeaaGreat
namespace Go.Proofs.YtbcjnckejkjfeaaGreat
set_option linter.unusedVariables false
set_option linter.unusedSimpArgs false
open Go.Joins Go.ChangeShapes Go.WideShapes Go.ChangeAt Go.RowKit Go.Deep Go.NP
theorem own : ownKnob Tryz.prog.godebug = none := by kernel_rfl
theorem laidOut : laidOutB Tryz.prog = true := by kernel_rfl
theorem cellsPt : Tryz.prog.cellsOf 36 = 3 := by kernel_rfl
theorem cellsBd : Tryz.prog.cellsOf 38 = 6 := by kernel_rfl
theorem cellsI : Tryz.prog.cellsOf 2 = 1 := by kernel_rfl
section
variable {H : Type} {enc : TypeId × Value → H} {w : World} {base : Nat} {spare : Nat → Bool} {held : Bool}
theorem open_pt3 {n : Nat} {c0 c1 c2 : Value} {x : DataW H × List MemPlace} (h : DataW.trod enc Tryz.prog w base spare held n 36 [c0, c1, c2] = some x) : ∃ p : Pt, c0 = .int .i64 p.x ∧ c1 = .int .i64 p.y ∧ c2 = .int .i64 p.z := by
  obtain ⟨xs, m, _, hx, _, hlen, hg⟩ := DataW.trod_struct Tryz.underlying36 h
  match xs, hlen with
  | [y0, y1, y2], _ =>
    have g0 : DataW.trod enc Tryz.prog w base spare held m 2 [c0] = some y0 := by
      have t : DataW.trod enc Tryz.prog w base spare held m 2 (List.take (Tryz.prog.cellsOf 2) (List.drop 0 [c0, c1, c2])) = some y0 := hg 0 _ rfl
      rw [cellsI] at t; exact t
    have g1 : DataW.trod enc Tryz.prog w base spare held m 2 [c1] = some y1 := by
      have t : DataW.trod enc Tryz.prog w base spare held m 2 (List.take (Tryz.prog.cellsOf 2) (List.drop 1 [c0, c1, c2])) = some y1 := hg 1 _ rfl
      rw [cellsI] at t; exact t
    have g2 : DataW.trod enc Tryz.prog w base spare held m 2 [c2] = some y2 := by
      have t : DataW.trod enc Tryz.prog w base spare held m 2 (List.take (Tryz.prog.cellsOf 2) (List.drop 2 [c0, c1, c2])) = some y2 := hg 2 _ rfl
      rw [cellsI] at t; exact t
    obtain ⟨a, ha, _⟩ := DataW.trod_int Tryz.underlying2 g0
    obtain ⟨b, hb, _⟩ := DataW.trod_int Tryz.underlying2 g1
    obtain ⟨c, hc, _⟩ := DataW.trod_int Tryz.underlying2 g2
    simp only [List.cons.injEq, and_true] at ha hb hc
    exact ⟨⟨a, b, c⟩, ha, hb, hc⟩
set_option maxRecDepth 100000 in
theorem open_bd {r : Reach} {b0 : Nat} {v : Value} {d : DataW H} {p : List MemPlace} (hv : Value.okWide Tryz.prog w r b0 38 v) (h : DataW.Trod enc Tryz.prog w base spare held 38 v d p) : ∃ a : Bd, v = .agg #[.int .i64 a.lo.x, .int .i64 a.lo.y, .int .i64 a.lo.z, .int .i64 a.hi.x, .int .i64 a.hi.y, .int .i64 a.hi.z] := by
  obtain ⟨cs, rfl, hsz⟩ := okWide_struct Tryz.underlying38 hv
  obtain ⟨l⟩ := cs
  match l, hsz.trans cellsBd with
  | [c0, c1, c2, c3, c4, c5], _ =>
    obtain ⟨fuel, hf⟩ := h
    obtain ⟨xs, n, _, hx, _, hlen, hg⟩ := DataW.trod_struct Tryz.underlying38 hf
    match xs, hlen with
    | [y0, y1], _ =>
      have g0 : DataW.trod enc Tryz.prog w base spare held n 36 [c0, c1, c2] = some y0 := by
        have t : DataW.trod enc Tryz.prog w base spare held n 36 (List.take (Tryz.prog.cellsOf 36) (List.drop 0 [c0, c1, c2, c3, c4, c5])) = some y0 := hg 0 _ rfl
        rw [cellsPt] at t; exact t
      have g1 : DataW.trod enc Tryz.prog w base spare held n 36 [c3, c4, c5] = some y1 := by
        have t : DataW.trod enc Tryz.prog w base spare held n 36 (List.take (Tryz.prog.cellsOf 36) (List.drop 3 [c0, c1, c2, c3, c4, c5])) = some y1 := hg 1 _ rfl
        rw [cellsPt] at t; exact t
      obtain ⟨lo, rfl, rfl, rfl⟩ := open_pt3 g0
      obtain ⟨hi, rfl, rfl, rfl⟩ := open_pt3 g1
      exact ⟨⟨lo, hi⟩, rfl⟩
set_option maxRecDepth 100000 in
theorem open_pt {r : Reach} {b0 : Nat} {v : Value} {d : DataW H} {p : List MemPlace} (hv : Value.okWide Tryz.prog w r b0 36 v) (h : DataW.Trod enc Tryz.prog w base spare held 36 v d p) : ∃ a : Pt, v = .agg #[.int .i64 a.x, .int .i64 a.y, .int .i64 a.z] := by
  obtain ⟨cs, rfl, hsz⟩ := okWide_struct Tryz.underlying36 hv
  obtain ⟨l⟩ := cs
  match l, hsz.trans cellsPt with
  | [c0, c1, c2], _ =>
    obtain ⟨fuel, hf⟩ := h
    obtain ⟨p, rfl, rfl, rfl⟩ := open_pt3 (by simpa [Value.cells] using hf)
    exact ⟨p, rfl⟩
end
end Go.Proofs.YtbcjnckejkjfeaaGreat
namespace Go.Proofs.YtbcjnckejkjfeaaGreat
set_option linter.unusedVariables false
set_option linter.unusedSimpArgs false
open Go.Joins Go.ChangeShapes Go.WideShapes Go.ChangeAt Go.RowKit Go.Deep Go.NP
namespace OpL
instance : Inhabited Bd := ⟨⟨⟨0, 0, 0⟩, ⟨0, 0, 0⟩⟩⟩
def bdl (x : Bd) : List Value := [.int .i64 x.lo.x, .int .i64 x.lo.y, .int .i64 x.lo.z, .int .i64 x.hi.x, .int .i64 x.hi.y, .int .i64 x.hi.z]
/-- A slice of bounds. -/
def SlB (w : World) (A : Option Addr) (n : Nat) (l : List Bd) : Prop := l.length = n ∧ (0 < n → ∃ b off, A = some ⟨b, off, none⟩ ∧ b < w.heap.size ∧ ∀ (k : Nat) x, l[k]? = some x → At' w b (off + k * 6) (bdl x))
theorem SlB.step {w w' : World} {A : Option Addr} {n : Nat} {l : List Bd} (h : SlB w A n l) (hS : Below w.heap.size w w') : SlB w' A n l :=
  ⟨h.1, fun hn => by obtain ⟨b, off, h1, h2, h3⟩ := h.2 hn; exact ⟨b, off, h1, by have := hS.size; omega, fun k x hk => (h3 k x hk).step h2 hS⟩⟩
theorem spot_none {w : World} {a : Addr} {v : Value} (h : w.cell? a = some v) : a.spot = none ∧ a.block < w.heap.size := by
  unfold World.cell? at h
  split at h
  · rename_i hb
    split at h
    · cases h
    · rename_i hs
      refine ⟨by simpa using hs, ?_⟩
      rcases Nat.lt_or_ge a.block w.heap.size with h' | h'
      · exact h'
      · rw [Array.getElem?_eq_none h'] at hb; cases hb
  · cases h
theorem add_plain (b off n : Nat) : (⟨b, off, none⟩ : Addr).add n = ⟨b, off + n, none⟩ := by
  unfold Addr.add
  by_cases h : n = 0
  · simp [h]
  · simp [h]
theorem get_len {α : Type} {l : List α} {j : Nat} {v : α} (h : l[j]? = some v) : j < l.length := by
  rcases Nat.lt_or_ge j l.length with h' | h'
  · exact h'
  · rw [List.getElem?_eq_none h'] at h; cases h
section
variable {H : Type} {enc : TypeId × Value → H} {w : World} {base : Nat} {spare : Nat → Bool} {held : Bool}
theorem open_bd6 {n : Nat} {c0 c1 c2 c3 c4 c5 : Value} {x : DataW H × List MemPlace} (h : DataW.trod enc Tryz.prog w base spare held n 38 [c0, c1, c2, c3, c4, c5] = some x) : ∃ a : Bd, [c0, c1, c2, c3, c4, c5] = bdl a := by
  obtain ⟨xs, m, _, hx, _, hlen, hg⟩ := DataW.trod_struct Tryz.underlying38 h
  match xs, hlen with
  | [y0, y1], _ =>
    have g0 : DataW.trod enc Tryz.prog w base spare held m 36 [c0, c1, c2] = some y0 := by
      have t : DataW.trod enc Tryz.prog w base spare held m 36 (List.take (Tryz.prog.cellsOf 36) (List.drop 0 [c0, c1, c2, c3, c4, c5])) = some y0 := hg 0 _ rfl
      rw [cellsPt] at t; exact t
    have g1 : DataW.trod enc Tryz.prog w base spare held m 36 [c3, c4, c5] = some y1 := by
      have t : DataW.trod enc Tryz.prog w base spare held m 36 (List.take (Tryz.prog.cellsOf 36) (List.drop 3 [c0, c1, c2, c3, c4, c5])) = some y1 := hg 1 _ rfl
      rw [cellsPt] at t; exact t
    obtain ⟨lo, rfl, rfl, rfl⟩ := open_pt3 g0
    obtain ⟨hi, rfl, rfl, rfl⟩ := open_pt3 g1
    exact ⟨⟨lo, hi⟩, rfl⟩
set_option maxRecDepth 100000 in
theorem open_bds {r : Reach} {b0 : Nat} {v : Value} {d : DataW H} {p : List MemPlace} (hv : Value.okWide Tryz.prog w r b0 122 v) (h : DataW.Trod enc Tryz.prog w base spare held 122 v d p) :
    ∃ A n cap l, v = .slice A n cap ∧ SlB w A n l := by
  obtain ⟨A, n, cap, rfl⟩ := okWide_slice Tryz.underlying122 hv
  obtain ⟨fuel, hf⟩ := h
  have hf : DataW.trod enc Tryz.prog w base spare held fuel 122 [.slice A n cap] = some (d, p) := hf
  rcases open_slice Tryz.underlying122 hf with ⟨h0, _⟩ | ⟨a, len, cap', m, nn, D, Pl, hcs, hb, hl, hm, hmm, hx, hi⟩
  · simp only [List.cons.injEq, Value.slice.injEq, and_true] at h0
    obtain ⟨rfl, rfl, rfl⟩ := h0
    exact ⟨none, 0, 0, [], rfl, rfl, fun h => absurd h (by omega)⟩
  · simp only [List.cons.injEq, Value.slice.injEq, and_true] at hcs
    obtain ⟨rfl, rfl, rfl⟩ := hcs
    have hmn : n ≤ m := by rw [hmm]; split <;> omega
    have key : ∀ i, i < n → ∃ s : Bd, ∀ j v, (bdl s)[j]? = some v → w.cell? ((a.add (i * 6)).add j) = some v := by
      intro i hin
      obtain ⟨cs', hc, ht'⟩ := hi i (by omega)
      rw [cellsBd] at hc
      obtain ⟨_, hcl, hat⟩ := World.cells?_some hc
      match cs', hcl with
      | [c0, c1, c2, c3, c4, c5], _ =>
        obtain ⟨s, hs⟩ := open_bd6 ht'
        refine ⟨s, fun j v hv => ?_⟩
        rw [← hs] at hv
        have hj : j < 6 := get_len hv
        have := hat j hj
        rw [this]
        exact hv
    obtain ⟨f, hf'⟩ := choose_lt key
    refine ⟨some a, n, cap, (List.range n).map f, rfl, by simp, fun hn => ?_⟩
    obtain ⟨hs, hblk⟩ := spot_none (hf' 0 hn 0 _ rfl)
    obtain ⟨b, off, sp⟩ := a
    have hs : sp = none := by
      have : (Addr.mk b off sp).spot = none := by simpa [Addr.add] using hs
      exact this
    subst hs
    refine ⟨b, off, rfl, by simpa [add_plain] using hblk, fun k x hk j v hv => ?_⟩
    have hkn : k < n := by
      rcases Nat.lt_or_ge k n with h' | h'
      · exact h'
      · rw [List.getElem?_eq_none (by simp; exact h')] at hk; cases hk
    rw [List.getElem?_map, List.getElem?_range hkn] at hk
    simp only [Option.map_some, Option.some.injEq] at hk
    subst hk
    have := hf' k hkn j v hv
    simp only [add_plain] at this
    exact this
end
end OpL
end Go.Proofs.YtbcjnckejkjfeaaGreat
namespace Go.Proofs.YtbcjnckejkjfeaaGreat
set_option linter.unusedVariables false
set_option linter.unusedSimpArgs false
open Go.Joins Go.ChangeShapes Go.WideShapes Go.ChangeAt Go.RowKit Go.Deep Go.NP
/-- A call: what is done, to which number, with which bound. -/
structure Oc where
  d : Int
  q : Int
  x : Bd
namespace OpO
open OpL (get_len spot_none)
instance : Inhabited Oc := ⟨⟨0, 0, ⟨⟨0, 0, 0⟩, ⟨0, 0, 0⟩⟩⟩⟩
def ocl (o : Oc) : List Value := [.int .i64 o.d, .int .i64 o.q, .int .i64 o.x.lo.x, .int .i64 o.x.lo.y, .int .i64 o.x.lo.z, .int .i64 o.x.hi.x, .int .i64 o.x.hi.y, .int .i64 o.x.hi.z]
theorem cellsOp : Tryz.prog.cellsOf 40 = 8 := by kernel_rfl
theorem cellsN : Tryz.prog.cellsOf 3 = 1 := by kernel_rfl
/-- A slice of calls. -/
def SlO (w : World) (A : Option Addr) (n : Nat) (l : List Oc) : Prop := l.length = n ∧ (0 < n → ∃ b off, A = some ⟨b, off, none⟩ ∧ b < w.heap.size ∧ ∀ (k : Nat) x, l[k]? = some x → At' w b (off + k * 8) (ocl x))
theorem SlO.step {w w' : World} {A : Option Addr} {n : Nat} {l : List Oc} (h : SlO w A n l) (hS : Below w.heap.size w w') : SlO w' A n l :=
  ⟨h.1, fun hn => by obtain ⟨b, off, h1, h2, h3⟩ := h.2 hn; exact ⟨b, off, h1, by have := hS.size; omega, fun k x hk => (h3 k x hk).step h2 hS⟩⟩
section
variable {H : Type} {enc : TypeId × Value → H} {w : World} {base : Nat} {spare : Nat → Bool} {held : Bool}
theorem open_op8 {n : Nat} {c0 c1 c2 c3 c4 c5 c6 c7 : Value} {x : DataW H × List MemPlace} (h : DataW.trod enc Tryz.prog w base spare held n 40 [c0, c1, c2, c3, c4, c5, c6, c7] = some x) : ∃ a : Oc, QVm.wfI a.q ∧ [c0, c1, c2, c3, c4, c5, c6, c7] = ocl a := by
  obtain ⟨xs, m, _, hx, _, hlen, hg⟩ := DataW.trod_struct Tryz.underlying40 h
  match xs, hlen with
  | [y0, y1, y2], _ =>
    have g0 : DataW.trod enc Tryz.prog w base spare held m 3 [c0] = some y0 := by
      have t : DataW.trod enc Tryz.prog w base spare held m 3 (List.take (Tryz.prog.cellsOf 3) (List.drop 0 [c0, c1, c2, c3, c4, c5, c6, c7])) = some y0 := hg 0 _ rfl
      rw [cellsN] at t; exact t
    have g1 : DataW.trod enc Tryz.prog w base spare held m 3 [c1] = some y1 := by
      have t : DataW.trod enc Tryz.prog w base spare held m 3 (List.take (Tryz.prog.cellsOf 3) (List.drop 1 [c0, c1, c2, c3, c4, c5, c6, c7])) = some y1 := hg 1 _ rfl
      rw [cellsN] at t; exact t
    have g2 : DataW.trod enc Tryz.prog w base spare held m 38 [c2, c3, c4, c5, c6, c7] = some y2 := by
      have t : DataW.trod enc Tryz.prog w base spare held m 38 (List.take (Tryz.prog.cellsOf 38) (List.drop 2 [c0, c1, c2, c3, c4, c5, c6, c7])) = some y2 := hg 2 _ rfl
      rw [cellsBd] at t; exact t
    obtain ⟨a, ha, _⟩ := DataW.trod_int Tryz.underlying3 g0
    obtain ⟨b, hb, _, hw⟩ := DataW.trod_int Tryz.underlying3 g1
    obtain ⟨c, hc⟩ := OpL.open_bd6 g2
    simp only [List.cons.injEq, and_true] at ha hb
    subst ha hb
    unfold OpL.bdl at hc
    simp only [List.cons.injEq, and_true] at hc
    obtain ⟨rfl, rfl, rfl, rfl, rfl, rfl⟩ := hc
    exact ⟨⟨a, b, c⟩, hw, rfl⟩
set_option maxRecDepth 100000 in
theorem open_ops {r : Reach} {b0 : Nat} {v : Value} {d : DataW H} {p : List MemPlace} (hv : Value.okWide Tryz.prog w r b0 22 v) (h : DataW.Trod enc Tryz.prog w base spare held 22 v d p) :
    ∃ A n cap l, v = .slice A n cap ∧ SlO w A n l ∧ ∀ x ∈ l, QVm.wfI x.q := by
  obtain ⟨A, n, cap, rfl⟩ := okWide_slice Tryz.underlying22 hv
  obtain ⟨fuel, hf⟩ := h
  have hf : DataW.trod enc Tryz.prog w base spare held fuel 22 [.slice A n cap] = some (d, p) := hf
  rcases open_slice Tryz.underlying22 hf with ⟨h0, _⟩ | ⟨a, len, cap', m, nn, D, Pl, hcs, hb, hl, hm, hmm, hx, hi⟩
  · simp only [List.cons.injEq, Value.slice.injEq, and_true] at h0
    obtain ⟨rfl, rfl, rfl⟩ := h0
    exact ⟨none, 0, 0, [], rfl, ⟨rfl, fun h => absurd h (by omega)⟩, fun x h => (by cases h)⟩
  · simp only [List.cons.injEq, Value.slice.injEq, and_true] at hcs
    obtain ⟨rfl, rfl, rfl⟩ := hcs
    have hmn : n ≤ m := by rw [hmm]; split <;> omega
    have key : ∀ i, i < n → ∃ s : Oc, (∀ j v, (ocl s)[j]? = some v → w.cell? ((a.add (i * 8)).add j) = some v) ∧ QVm.wfI s.q := by
      intro i hin
      obtain ⟨cs', hc, ht'⟩ := hi i (by omega)
      rw [cellsOp] at hc
      obtain ⟨_, hcl, hat⟩ := World.cells?_some hc
      match cs', hcl with
      | [c0, c1, c2, c3, c4, c5, c6, c7], _ =>
        obtain ⟨s, hw, hs⟩ := open_op8 ht'
        refine ⟨s, fun j v hv => ?_, hw⟩
        rw [← hs] at hv
        have hj : j < 8 := get_len hv
        have := hat j hj
        rw [this]
        exact hv
    obtain ⟨f, hf'⟩ := choose_lt key
    refine ⟨some a, n, cap, (List.range n).map f, rfl, ⟨by simp, fun hn => ?_⟩, fun x hx => ?_⟩
    · obtain ⟨hs, hblk⟩ := spot_none ((hf' 0 hn).1 0 _ rfl)
      obtain ⟨b, off, sp⟩ := a
      have hs : sp = none := by
        have : (Addr.mk b off sp).spot = none := by simpa [Addr.add] using hs
        exact this
      subst hs
      refine ⟨b, off, rfl, by simpa [OpL.add_plain] using hblk, fun k x hk j v hv => ?_⟩
      have hkn : k < n := by
        rcases Nat.lt_or_ge k n with h' | h'
        · exact h'
        · rw [List.getElem?_eq_none (by simp; exact h')] at hk; cases hk
      rw [List.getElem?_map, List.getElem?_range hkn] at hk
      simp only [Option.map_some, Option.some.injEq] at hk
      subst hk
      have := (hf' k hkn).1 j v hv
      simp only [OpL.add_plain] at this
      exact this
    · obtain ⟨i, hi', rfl⟩ := List.mem_map.1 hx
      exact (hf' i (List.mem_range.1 hi')).2
end
end OpO
end Go.Proofs.YtbcjnckejkjfeaaGreat
