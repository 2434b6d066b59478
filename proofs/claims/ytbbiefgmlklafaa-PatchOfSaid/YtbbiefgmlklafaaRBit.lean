/- The document's bits: the walks. No condition. -/
import Derived.Test.YtbbiefgmlklafaaProg
import Derived.Test.YtbbiefgmlklafaaReg
import Derived.WalkKit
import Derived.WalkSpells
import Derived.WalkLawsBesides
import Derived.Test.YtbbiefgmlklafaaRegG
import Derived.Test.YtbbiefgmlklafaaBit
import Derived.Test.YtbbiefgmlklafaaWid8
import Derived.Lib.Hide
import Derived.IntWalk
import Derived.Laws.MakeOwn
namespace Go.Proofs.Ytbbiefgmlklafaa
set_option linter.unusedVariables false
set_option linter.unusedSimpArgs false
open Go.RowKit Go.NP
/-- An integer's eight words. -/
def w8 (n : Int) : L8 := ⟨limb n 0, limb n 1, limb n 2, limb n 3, limb n 4, limb n 5, limb n 6, limb n 7⟩
def iv (l : List Int) : List Value := l.map (Value.int .i64)
theorem iv_len (l : List Int) : (iv l).length = l.length := by simp [iv]
theorem iv_get {l : List Int} {i : Nat} {n : Int} (h : l[i]? = some n) : (iv l)[i]? = some (.int .i64 n) := by unfold iv; rw [List.getElem?_map, h]; rfl
theorem iv_set (l : List Int) (i : Nat) (n : Int) : (iv l).set i (.int .i64 n) = iv (l.set i n) := by unfold iv; rw [List.map_set]
theorem w8_get (n : Int) {j : Nat} (hj : j < 8) : ([.int .u64 (w8 n).a, .int .u64 (w8 n).b, .int .u64 (w8 n).c, .int .u64 (w8 n).d, .int .u64 (w8 n).e, .int .u64 (w8 n).f, .int .u64 (w8 n).g, .int .u64 (w8 n).h] : List Value)[j]? = some (.int .u64 (limb n j)) := by
  rcases j with _ | _ | _ | _ | _ | _ | _ | _ | j
  iterate 8 rfl
  omega
/-- A new row of integers. -/
def RetR (f : FuncId) (args : Array Value) (w : World) (n : Nat) (l : List Int) : Prop := RetK Try.prog f args w (newR w.heap.size n (iv l) 3)
theorem made_iv (n : Nat) : madeCells #[.int .i64 0] n = (iv (List.replicate n 0)).toArray := by
  unfold madeCells iv
  apply Array.ext_getElem?
  intro i
  by_cases hi : i < n
  · simp [hi, Nat.mod_one]
  · simp [hi]
theorem mk_ints (n : Nat) (hn : n ≤ 1000000) (u : World) : (Instr.makeSlice 48 (.int .i64 (n : Int)) (.int .i64 (n : Int))).run Try.prog u = .ok (.slice (some ⟨u.heap.size, 0, none⟩) n n) (u.alloc (.cells (iv (List.replicate n 0)).toArray 3)) := by
  have := run_makeSlice (P := Try.prog) u 48 3 Try.t3 (.int .i64 0) Try.underlying48 (by kernel_rfl) (by kernel_rfl) .i64 .i64 n n (by omega) (Int.le_refl _) (by show (n : Int).toNat * 1 ≤ _; omega) (by show ((8 : Nat) : Int) * n ≤ _; omega) (by omega)
  rw [← made_iv]
  simpa [show Try.t3.size = 1 from rfl, Value.cells] using this
theorem wr01 {n : Int} (h0 : 0 ≤ n) (h1 : n ≤ 1) : wrap64 n = n := by unfold wrap64; omega
theorem long_val (x : Int) (k : Nat) : wrap64 ((limb x (k / 64) / 2 ^ (k % 64)).tmod 2) = limb x (k / 64) / 2 ^ (k % 64) % 2 := by
  have h0 : 0 ≤ limb x (k / 64) / 2 ^ (k % 64) := Int.ediv_nonneg (limb_range x _).1 (Int.le_of_lt (p2_pos _))
  rw [Int.tmod_eq_emod_of_nonneg h0]
  exact wr01 (by omega) (by omega)
theorem long_val7 (x : Int) : wrap64 ((limb x 7 / 9223372036854775808).tmod 2) = bit x 511 := by
  have := long_val x 511
  rw [limb_bit] at this
  exact this
set_option maxRecDepth 100000 in
set_option maxHeartbeats 2000000 in
theorem longC (x : Int) (w : World) : RetR 69 #[.agg #[.int .u64 (w8 x).a, .int .u64 (w8 x).b, .int .u64 (w8 x).c, .int .u64 (w8 x).d, .int .u64 (w8 x).e, .int .u64 (w8 x).f, .int .u64 (w8 x).g, .int .u64 (w8 x).h], .int .i64 520] w 520 ((List.range 520).map fun i => bit x (min i 511)) := by
  unfold RetR RetK
  have hmk : ∀ u : World, (Instr.makeSlice 48 (.int .i64 520) (.int .i64 520)).run Try.prog u = .ok (.slice (some ⟨u.heap.size, 0, none⟩) 520 520) (u.alloc (.cells (iv (List.replicate 520 0)).toArray 3)) := mk_ints 520 (by omega)
  generalize hz : (iv (List.replicate 520 0)) = z at hmk
  have HZ := Lib.hid hz
  clear hz
  go_enter Try.func69, Try.ntmps69
  go_wp2
  go_loopw [6] (fun i wr => ∃ k : Nat, k ≤ 520 ∧ i = .int .i64 k ∧ Box wr w.heap.size [.int .u64 (w8 x).a, .int .u64 (w8 x).b, .int .u64 (w8 x).c, .int .u64 (w8 x).d, .int .u64 (w8 x).e, .int .u64 (w8 x).f, .int .u64 (w8 x).g, .int .u64 (w8 x).h] 37 ∧ Box wr (w.heap.size + 1) (iv (fillAt (fun i => bit x (min i 511)) 520 k)) 3 ∧ Below w.heap.size w wr) (fun i _ => 520 - (intOf i).toNat)
  case atStart =>
    refine ⟨0, by omega, rfl, ?_, ?_, ?_⟩
    · exact (Box.new rfl).alloc _
    · rw [fillAt_zero, HZ.out]; exact Box.new (by simp)
    · exact ((Below.refl _ _).alloc (Nat.le_refl _) _).alloc (by simp) _
  case round =>
    rename_i wr
    obtain ⟨k, hk, rfl, hA, hG, hW⟩ := hrel
    by_cases hlt : k < 520
    · have hf := hA.free
      have hgf := hG.free
      have hgc := hG.cell k
      rw [iv_get (fillAt_get _ k hlt)] at hgc
      by_cases h5 : k ≤ 511
      · have hm : decide ((k : Int) ≤ 511) = true := decide_eq_true (by omega)
        have hc := hA.cell (k / 64)
        rw [w8_get x (by omega)] at hc
        go_wp2
        go_roundw
        case rel =>
          refine ⟨k + 1, by omega, by go_num, hA.other (by simp) _, ?_, hW.setCell (by simp) _⟩
          rw [long_val, limb_bit, ← fillAt_set _ hlt, ← iv_set, show bit x k = (fun i => bit x (min i 511)) k by rw [show (fun i => bit x (min i 511)) k = bit x (min k 511) from rfl, Nat.min_eq_left h5]]
          exact hG.set k _
        case measure => simp [intOf]; omega
      · have hm : decide ((k : Int) ≤ 511) = false := decide_eq_false (by omega)
        have hc := hA.cell 7
        rw [w8_get x (by omega)] at hc
        go_wp2
        go_roundw
        case rel =>
          refine ⟨k + 1, by omega, by go_num, hA.other (by simp) _, ?_, hW.setCell (by simp) _⟩
          rw [long_val7, ← fillAt_set _ hlt, ← iv_set, show bit x 511 = (fun i => bit x (min i 511)) k by rw [show (fun i => bit x (min i 511)) k = bit x (min k 511) from rfl, Nat.min_eq_right (by omega)]]
          exact hG.set k _
        case measure => simp [intOf]; omega
    · obtain rfl : k = 520 := by omega
      rw [fillAt_all] at hG
      go_wp2
      go_ret
      exact ⟨_, rfl, ⟨w.heap.size + 1, rfl, by omega, hG⟩, hW⟩
theorem bitsL_long {x : Int} (h : fits x) : (List.range 520).map (fun i => bit x (min i 511)) = bitsL x 520 := by
  obtain ⟨k, hk, h0, h1⟩ := h
  unfold bitsL
  apply List.map_congr_left
  intro i _
  by_cases hi : i ≤ 511
  · rw [Nat.min_eq_left hi]
  · rw [Nat.min_eq_right (by omega), bit_high h0 h1 hk, bit_high h0 h1 (by omega)]
theorem longB {x : Int} (h : fits x) (w : World) : RetR 69 #[.agg #[.int .u64 (w8 x).a, .int .u64 (w8 x).b, .int .u64 (w8 x).c, .int .u64 (w8 x).d, .int .u64 (w8 x).e, .int .u64 (w8 x).f, .int .u64 (w8 x).g, .int .u64 (w8 x).h], .int .i64 520] w 520 (bitsL x 520) := by
  rw [← bitsL_long h]; exact longC x w
theorem cf68 (args : Array Value) (w1 : World) : (callFunc 68 args).run Try.prog w1 = .ok (.enter 68 args) w1 := enters Try.func68 (by kernel_rfl) (by kernel_rfl) args w1
set_option maxRecDepth 100000 in
set_option maxHeartbeats 2000000 in
theorem plusB (a b : Int) (n g1 g2 : Nat) (hn : n ≤ 100000) (w : World) (h1 : Box w g1 (iv (bitsL a n)) 3) (h2 : Box w g2 (iv (bitsL b n)) 3) :
    RetR 68 #[.slice (some ⟨g1, 0, none⟩) n n, .slice (some ⟨g2, 0, none⟩) n n] w n (bitsL (a + b) n) := by
  unfold RetR RetK
  have hmk := mk_ints n (by omega)
  generalize hz : (iv (List.replicate n 0)) = z at hmk
  have HZ := Lib.hid hz
  clear hz
  have l1 := h1.lt; have l2 := h2.lt
  have H1 := Lib.hid h1; have H2 := Lib.hid h2
  clear h1 h2
  go_enter Try.func68, Try.ntmps68
  go_wp2
  go_loopw [6, 7] (fun c i wr => ∃ k : Nat, k ≤ n ∧ i = .int .i64 k ∧ c = .int .i64 (carry a b k) ∧ Box wr w.heap.size (iv (fillAt (bit (a + b)) n k)) 3 ∧ Below w.heap.size w wr) (fun _ i _ => n - (intOf i).toNat)
  case atStart =>
    refine ⟨0, by omega, rfl, by rw [carry_zero], ?_, ?_⟩
    · rw [fillAt_zero, HZ.out]; exact Box.new rfl
    · exact (Below.refl _ _).alloc (Nat.le_refl _) _
  case round =>
    rename_i wr
    obtain ⟨k, hk, rfl, rfl, hG, hW⟩ := hrel
    by_cases hlt : k < n
    · have hA := H1.out.below hW l1
      have hB := H2.out.below hW l2
      have e1 := hA.cell k; have e2 := hB.cell k; have e3 := hG.cell k
      rw [iv_get (bitsL_get a hlt)] at e1
      rw [iv_get (bitsL_get b hlt)] at e2
      rw [iv_get (fillAt_get _ k hlt)] at e3
      have f1 := hA.free; have f2 := hB.free; have f3 := hG.free
      have j1 := hA.lt; have j2 := hB.lt; have j3 := hG.lt
      have b1 := bit01 a k; have b2 := bit01 b k; have b3 := carry01 a b k
      obtain ⟨b1, b1'⟩ := b1; obtain ⟨b2, b2'⟩ := b2; obtain ⟨b3, b3'⟩ := b3
      have HC := Lib.hid (carry_succ a b k)
      have HB := Lib.hid (bit_add a b k)
      generalize bit a k = x at *
      generalize bit b k = y at *
      generalize carry a b k = c at *
      go_wp2
      refine wp_region_ph [(11, .free [])] (by kernel_rfl) (by kernel_rfl) ?_
      refine Ph.belowd ?_
      simp only [List.drop_succ_cons, List.drop_zero, List.take_succ_cons, List.take_zero, Nat.reduceSub, Nat.sub_zero]
      iterate 11 (refine SeqO.val (v := ?_) (by rfl) (by rfl) (fun w1 hS => ?_) ?_; rotate_left; (· obtain ⟨hc, hcf⟩ := bcell hS; go_simp; try with_reducible rfl); simp only [Act.put, List.setIfInBounds_toArray, List.set_cons_zero, List.set_cons_succ])
      refine SeqO.nil0 fun w5 hS => ?_
      refine Ph.last ?_
      simp only [List.drop_succ_cons, List.drop_zero, List.take_succ_cons, List.take_zero, Nat.reduceSub, Nat.sub_zero]
      have hG5 := hG.step hS
      have hW5 := hW.trans (hS.mono hW.size)
      have e3 := hG5.cell k
      rw [iv_get (fillAt_get _ k hlt)] at e3
      have f3 := hG5.free
      go_wp2
      go_roundw
      case rel =>
        refine ⟨k + 1, by omega, by go_num, by rw [HC.out], ?_, hW5.setCell (by simp) _⟩
        rw [← fillAt_set _ hlt, HB.out, ← iv_set]
        exact hG5.set k _
      case measure => simp [intOf]; omega
    · obtain rfl : k = n := by omega
      rw [fillAt_all] at hG
      go_wp2
      go_ret
      exact ⟨_, rfl, ⟨w.heap.size, rfl, by omega, hG⟩, hW⟩
theorem cf70 (args : Array Value) (w1 : World) : (callFunc 70 args).run Try.prog w1 = .ok (.enter 70 args) w1 := enters Try.func70 (by kernel_rfl) (by kernel_rfl) args w1
set_option maxRecDepth 100000 in
set_option maxHeartbeats 2000000 in
theorem minusB (a : Int) (n g1 : Nat) (hn : n ≤ 100000) (w : World) (h1 : Box w g1 (iv (bitsL a n)) 3) :
    RetR 70 #[.slice (some ⟨g1, 0, none⟩) n n] w n (bitsL (-a) n) := by
  unfold RetR RetK
  have hmk := mk_ints n (by omega)
  generalize hz : (iv (List.replicate n 0)) = z at hmk
  have HZ := Lib.hid hz
  clear hz
  have l1 := h1.lt
  have H1 := Lib.hid h1
  clear h1
  go_enter Try.func70, Try.ntmps70
  go_wp2
  go_loopw [4, 5] (fun c i wr => ∃ k : Nat, k ≤ n ∧ i = .int .i64 k ∧ c = .int .i64 (borrow a k) ∧ Box wr w.heap.size (iv (fillAt (bit (-a)) n k)) 3 ∧ Below w.heap.size w wr) (fun _ i _ => n - (intOf i).toNat)
  case atStart =>
    refine ⟨0, by omega, rfl, by rw [borrow_zero], ?_, ?_⟩
    · rw [fillAt_zero, HZ.out]; exact Box.new rfl
    · exact (Below.refl _ _).alloc (Nat.le_refl _) _
  case round =>
    rename_i wr
    obtain ⟨k, hk, rfl, rfl, hG, hW⟩ := hrel
    by_cases hlt : k < n
    · have hA := H1.out.below hW l1
      have e1 := hA.cell k; have e3 := hG.cell k
      rw [iv_get (bitsL_get a hlt)] at e1
      rw [iv_get (fillAt_get _ k hlt)] at e3
      have f1 := hA.free; have f3 := hG.free
      have j1 := hA.lt; have j3 := hG.lt
      have b1 := bit01 a k; have b3 := borrow01 a k
      obtain ⟨b1, b1'⟩ := b1; obtain ⟨b3, b3'⟩ := b3
      have HC := Lib.hid (borrow_succ a k)
      have HB := Lib.hid (bit_neg a k)
      generalize bit a k = x at *
      generalize borrow a k = c at *
      go_wp2
      go_roundw
      case rel =>
        refine ⟨k + 1, by omega, by go_num, by rw [HC.out], ?_, hW.setCell (by simp) _⟩
        rw [← fillAt_set _ hlt, HB.out, ← iv_set]
        exact hG.set k _
      case measure => simp [intOf]; omega
    · obtain rfl : k = n := by omega
      rw [fillAt_all] at hG
      go_wp2
      go_ret
      exact ⟨_, rfl, ⟨w.heap.size, rfl, by omega, hG⟩, hW⟩
end Go.Proofs.Ytbbiefgmlklafaa
