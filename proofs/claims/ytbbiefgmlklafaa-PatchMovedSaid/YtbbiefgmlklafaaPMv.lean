/- The law PatchMoved: the walk. Condition: the slice's cells are as told. -/
import Derived.Test.YtbbiefgmlklafaaPMp
import Derived.Test.YtbbiefgmlklafaaOwA
namespace Go.Proofs.Ytbbiefgmlklafaa
set_option linter.unusedVariables false
set_option linter.unusedSimpArgs false
open Go.RowKit Go.NP
namespace PMv
open PGr PCk PCl PPl PSo PMp
theorem cf6 (args : Array Value) (w1 : World) : (callFunc 6 args).run Try.prog w1 = .ok (.enter 6 args) w1 := enters Try.func6 (by kernel_rfl) (by kernel_rfl) args w1
theorem cf7 (args : Array Value) (w1 : World) : (callFunc 7 args).run Try.prog w1 = .ok (.enter 7 args) w1 := enters Try.func7 (by kernel_rfl) (by kernel_rfl) args w1
set_option maxRecDepth 100000 in
set_option maxHeartbeats 20000000 in
theorem movedBig {A : Option Addr} {n cap : Nat} (p : Pt) (w : World) (hn : 100 < n) : RetB Try.prog 5 #[.slice A n cap, .agg #[.int .i64 p.x, .int .i64 p.y, .int .i64 p.z]] w (.bool true) := by
  have t : decide ((n : Int) > 100) = true := decide_eq_true (by omega)
  unfold RetB
  go_enter Try.func5, Try.ntmps5
  go_wp2_with fail
  refine (PSq.awakeC _).mono ?_
  rintro e w1 ⟨rfl, hS⟩
  have hW := ((Below.refl w.heap.size w).alloc (Nat.le_refl _) (.cells #[.int .i64 p.x, .int .i64 p.y, .int .i64 p.z] 30)).trans (hS.mono (by simp))
  go_wp2
  go_ret
  exact ⟨rfl, hW⟩
set_option maxRecDepth 100000 in
set_option maxHeartbeats 20000000 in
theorem movedFar {A : Option Addr} {n cap : Nat} (p : Pt) (w : World) (hn : n ≤ 100) (hp : ¬ p.ok) : RetB Try.prog 5 #[.slice A n cap, .agg #[.int .i64 p.x, .int .i64 p.y, .int .i64 p.z]] w (.bool true) := by
  have t : decide ((n : Int) > 100) = false := decide_eq_false (by omega)
  have HP := Lib.hid hp
  clear hp
  unfold RetB
  go_enter Try.func5, Try.ntmps5
  go_wp2_with fail
  refine (GCk.gcheck_no p _ HP.out).mono ?_
  rintro e w1 ⟨rfl, hS⟩
  have hW := ((Below.refl w.heap.size w).alloc (Nat.le_refl _) (.cells #[.int .i64 p.x, .int .i64 p.y, .int .i64 p.z] 30)).trans (hS.mono (by simp))
  go_wp2_with fail
  refine (PSq.awakeC _).mono ?_
  rintro e w2 ⟨rfl, hS⟩
  have hW := hW.trans (hS.mono hW.size)
  go_wp2
  go_ret
  exact ⟨rfl, hW⟩
set_option maxRecDepth 100000 in
set_option maxHeartbeats 20000000 in
theorem movedOk {A : Option Addr} {n : Nat} (cap : Nat) {l : List Spo} (p : Pt) (w : World) (hl : SlS w A n l) (hn : n ≤ 100) (hp : p.ok) : RetB Try.prog 5 #[.slice A n cap, .agg #[.int .i64 p.x, .int .i64 p.y, .int .i64 p.z]] w (.bool true) := by
  have t : decide ((n : Int) > 100) = false := decide_eq_false (by omega)
  have HP := Lib.hid hp
  have HL := Lib.hid hl
  have htn := Lib.hid (by8_tiny hp)
  obtain ⟨⟨p1, p2⟩, ⟨p3, p4⟩, p5, p6⟩ := hp
  clear hl
  unfold RetB
  go_enter Try.func5, Try.ntmps5
  go_wp2_with fail
  refine (GCk.gcheck_ok p _ HP.out).mono ?_
  rintro e w1 ⟨rfl, hS⟩
  have hW := ((Below.refl w.heap.size w).alloc (Nat.le_refl _) (.cells #[.int .i64 p.x, .int .i64 p.y, .int .i64 p.z] 30)).trans (hS.mono (by simp))
  have hA : Box w1 w.heap.size [.int .i64 p.x, .int .i64 p.y, .int .i64 p.z] 30 := (Box.new rfl).step hS
  have HL := Lib.hid (HL.out.step hW)
  have q0 := (hA).cell 0; have q1 := (hA).cell 1; have q2 := (hA).cell 2; have qf := (hA).free
  simp only [List.getElem?_cons_zero, List.getElem?_cons_succ] at q0 q1 q2
  clear hS
  go_wp2_with fail
  have hQ : Box (w1.alloc (.cells #[.int .i64 (by8 p).x, .int .i64 (by8 p).y, .int .i64 (by8 p).z] 30)) w1.heap.size [.int .i64 (by8 p).x, .int .i64 (by8 p).y, .int .i64 (by8 p).z] 30 := Box.new rfl
  have hB := (Below.refl w1.heap.size w1).alloc (Nat.le_refl _) (.cells #[.int .i64 (by8 p).x, .int .i64 (by8 p).y, .int .i64 (by8 p).z] 30)
  have HL := Lib.hid (HL.out.step hB)
  have hW := hW.trans (hB.mono hW.size)
  have hlq := hQ.lt
  clear hA q0 q1 q2 qf hB p1 p2 p3 p4 p5 p6
  show Code.wp Try.prog _ _ _ (w1.alloc (.cells #[.int .i64 (by8 p).x, .int .i64 (by8 p).y, .int .i64 (by8 p).z] 30))
  revert hQ HL hW hlq
  generalize w1.alloc (.cells #[.int .i64 (by8 p).x, .int .i64 (by8 p).y, .int .i64 (by8 p).z] 30) = w2
  intro hQ HL hW hlq
  generalize by8 p = q at *
  go_loopw [6, 7] (fun v i wr => ∃ j : Nat, i = .int .i64 j ∧ j ≤ n ∧ (∀ s ∈ l.take j, small s) ∧ OwnS wr w2.heap.size v ((l.take j).map (mv q)) ∧ Below w2.heap.size w2 wr) (fun _ i _ => n - (intOf i).toNat)
  case atStart => exact ⟨0, rfl, Nat.zero_le _, fun s hs => (by simp at hs), OwnS.nil _ _, Below.refl _ _⟩
  case round =>
    obtain ⟨j, rfl, hj, hsm, hO, hB⟩ := hrel
    have hsz := hB.size
    by_cases hlt : j < n
    · as_aux_lemma =>
      obtain ⟨s, hs⟩ : ∃ s, l[j]? = some s := ⟨_, List.getElem?_eq_getElem (by rw [HL.out.1]; exact hlt)⟩
      obtain ⟨b, off, rfl, hb, hsl⟩ := HL.out.2 (by omega)
      have at1 := Lib.hid (hsl.step hb hB j s hs)
      have t1 : decide ((j : Int) < (n : Int)) = true := by simpa using hlt
      have HTK := Lib.hid (take_snoc hs)
      have hlen : ((l.take j).map (mv q)).length ≤ 100000 := by rw [List.length_map, List.length_take]; omega
      have HSM := Lib.hid hsm
      clear hs hsl hsm
      iterate 4 go_step
      iterate 4 (with_reducible refine wpL_val (v := ?_) ?_ ?_ ?_; rotate_left; (· kernel_rfl); (· go_simp; try with_reducible rfl); conv => arg 5; simp only [Act.put, List.setIfInBounds_toArray, List.set_cons_zero, List.set_cons_succ])
      refine wpList_nil ?_
      iterate 10 go_step
      iterate 3 (with_reducible refine wpL_val (v := ?_) ?_ ?_ ?_; rotate_left; (· kernel_rfl); (· go_simp; try with_reducible rfl); conv => arg 5; simp only [Act.put, List.setIfInBounds_toArray, List.set_cons_zero, List.set_cons_succ])
      refine wpL_at (l := [.int .i64 s.side, .int .i64 s.at_, .int .i64 s.p.x, .int .i64 s.p.y, .int .i64 s.p.z]) (by rfl) (by rfl) at1.out Try.underlying32 (by rfl) (by kernel_rfl) (by kernel_rfl) ?_
      conv => arg 5; simp only [Act.put, List.setIfInBounds_toArray, List.set_cons_zero, List.set_cons_succ]
      refine wpL_go (v := .pointer (some ⟨wr.heap.size, 0, none⟩)) (w' := wr.alloc (.cells [.int .i64 0, .int .i64 0, .int .i64 0, .int .i64 0, .int .i64 0].toArray 32)) (by kernel_rfl) (by go_simp) ?_
      conv => arg 5; simp only [Act.put, List.setIfInBounds_toArray, List.set_cons_zero, List.set_cons_succ]
      refine wpL_store (cs := [.int .i64 s.side, .int .i64 s.at_, .int .i64 s.p.x, .int .i64 s.p.y, .int .i64 s.p.z]) (by rfl) (by rfl) (by rfl) (Box.new rfl) (by kernel_rfl) (by rfl) (by simp [Value.oneCell']) (by kernel_rfl) ?_
      conv => arg 5; simp only [Act.put, List.setIfInBounds_toArray, List.set_cons_zero, List.set_cons_succ]
      rw [alloc_setRow]
      refine wpList_nil ?_
      have h5 : Box (wr.alloc (.cells [.int .i64 s.side, .int .i64 s.at_, .int .i64 s.p.x, .int .i64 s.p.y, .int .i64 s.p.z].toArray 32)) wr.heap.size [.int .i64 s.side, .int .i64 s.at_, .int .i64 s.p.x, .int .i64 s.p.y, .int .i64 s.p.z] 32 := Box.new rfl
      have hBr := (Below.refl wr.heap.size wr).alloc (Nat.le_refl _) (.cells [.int .i64 s.side, .int .i64 s.at_, .int .i64 s.p.x, .int .i64 s.p.y, .int .i64 s.p.z].toArray 32)
      have hB := hB.alloc hsz (.cells [.int .i64 s.side, .int .i64 s.at_, .int .i64 s.p.x, .int .i64 s.p.y, .int .i64 s.p.z].toArray 32)
      have hg : w2.heap.size ≤ wr.heap.size := hsz
      revert h5 hBr hB hg
      generalize wr.alloc (.cells [.int .i64 s.side, .int .i64 s.at_, .int .i64 s.p.x, .int .i64 s.p.y, .int .i64 s.p.z].toArray 32) = wx
      generalize hgw : wr.heap.size = g
      have HGW := Lib.hid hgw
      clear hgw
      intro h5 hBr hB hg
      have q0 := (h5).cell 0; have q1 := (h5).cell 1; have q2 := (h5).cell 2; have q3 := (h5).cell 3; have q4 := (h5).cell 4; have qf := (h5).free
      simp only [List.getElem?_cons_zero, List.getElem?_cons_succ] at q0 q1 q2 q3 q4
      iterate 5 go_step
      have hmax : ∀ MX : Int, (if (if s.p.x < s.p.y then s.p.y else s.p.x) < s.p.z then s.p.z else if s.p.x < s.p.y then s.p.y else s.p.x) = MX → (67108864 < MX ↔ 67108864 < s.p.x ∨ 67108864 < s.p.y ∨ 67108864 < s.p.z) := fun MX h => by
        subst h
        split <;> split <;> omega
      iterate 10 (with_reducible refine wpL_val (v := ?_) ?_ ?_ ?_; rotate_left; (· kernel_rfl); (· go_simp; try with_reducible rfl); conv => arg 5; simp only [Act.put, List.setIfInBounds_toArray, List.set_cons_zero, List.set_cons_succ])
      generalize hMX : (if (if s.p.x < s.p.y then s.p.y else s.p.x) < s.p.z then s.p.z else if s.p.x < s.p.y then s.p.y else s.p.x) = MX
      have hmax := Lib.hid (hmax MX hMX)
      clear hMX
      by_cases hM : 67108864 < MX
      · have hM' : decide (MX > 67108864) = true := decide_eq_true hM
        have hM2 : decide (67108864 < MX) = true := decide_eq_true hM
        iterate 2 (with_reducible refine wpL_val (v := ?_) ?_ ?_ ?_; rotate_left; (· kernel_rfl); (· go_simp; try with_reducible rfl); conv => arg 5; simp only [Act.put, List.setIfInBounds_toArray, List.set_cons_zero, List.set_cons_succ])
        iterate 11 (with_reducible refine wpL_skip ?_ ?_; (· kernel_rfl); conv => arg 5; simp only [Act.put, List.setIfInBounds_toArray, List.set_cons_zero, List.set_cons_succ])
        iterate 1 (with_reducible refine wpL_val (v := ?_) ?_ ?_ ?_; rotate_left; (· kernel_rfl); (· go_simp; try with_reducible rfl); conv => arg 5; simp only [Act.put, List.setIfInBounds_toArray, List.set_cons_zero, List.set_cons_succ])
        refine wpList_nil ?_
        clear hmax HTK HSM hO h5 q0 q1 q2 q3 q4 qf
        go_wp2_with fail
        refine (PSq.awakeC _).mono ?_
        rintro e w5 ⟨rfl, hS⟩
        have hW := hW.trans ((hB.trans (hS.mono (by have := hB.size; omega))).mono hW.size)
        go_wp2
        go_ret
        exact ⟨rfl, hW⟩
      · have hM' : decide (MX > 67108864) = false := decide_eq_false hM
        have hM2 : decide (67108864 < MX) = false := decide_eq_false hM
        have hmin : ∀ MN : Int, (if s.p.z < (if s.p.y < s.p.x then s.p.y else s.p.x) then s.p.z else if s.p.y < s.p.x then s.p.y else s.p.x) = MN → (MN < -67108864 ↔ s.p.x < -67108864 ∨ s.p.y < -67108864 ∨ s.p.z < -67108864) := fun MN h => by
          subst h
          split <;> split at * <;> omega
        iterate 12 (with_reducible refine wpL_val (v := ?_) ?_ ?_ ?_; rotate_left; (· kernel_rfl); (· go_simp; try with_reducible rfl); conv => arg 5; simp only [Act.put, List.setIfInBounds_toArray, List.set_cons_zero, List.set_cons_succ])
        generalize hMN : (if s.p.z < (if s.p.y < s.p.x then s.p.y else s.p.x) then s.p.z else if s.p.y < s.p.x then s.p.y else s.p.x) = MN
        have hmin := Lib.hid (hmin MN hMN)
        clear hMN
        by_cases hN : MN < -67108864
        · have hN' : decide (MN < -67108864) = true := decide_eq_true hN
          iterate 2 (with_reducible refine wpL_val (v := ?_) ?_ ?_ ?_; rotate_left; (· kernel_rfl); (· go_simp; try with_reducible rfl); conv => arg 5; simp only [Act.put, List.setIfInBounds_toArray, List.set_cons_zero, List.set_cons_succ])
          refine wpList_nil ?_
          clear hmax hmin HTK HSM hO h5 q0 q1 q2 q3 q4 qf
          go_wp2_with fail
          refine (PSq.awakeC _).mono ?_
          rintro e w5 ⟨rfl, hS⟩
          have hW := hW.trans ((hB.trans (hS.mono (by have := hB.size; omega))).mono hW.size)
          go_wp2
          go_ret
          exact ⟨rfl, hW⟩
        · have hN' : decide (MN < -67108864) = false := decide_eq_false hN
          iterate 2 (with_reducible refine wpL_val (v := ?_) ?_ ?_ ?_; rotate_left; (· kernel_rfl); (· go_simp; try with_reducible rfl); conv => arg 5; simp only [Act.put, List.setIfInBounds_toArray, List.set_cons_zero, List.set_cons_succ])
          refine wpList_nil ?_
          have hsmall : small s := by
            have h1 : ¬ (67108864 < s.p.x ∨ 67108864 < s.p.y ∨ 67108864 < s.p.z) := fun h => hM (hmax.out.2 h)
            have h2 : ¬ (s.p.x < -67108864 ∨ s.p.y < -67108864 ∨ s.p.z < -67108864) := fun h => hN (hmin.out.2 h)
            refine ⟨⟨?_, ?_⟩, ⟨?_, ?_⟩, ?_, ?_⟩ <;> omega
          obtain ⟨⟨d1, d2⟩, ⟨d3, d4⟩, d5, d6⟩ := htn.out
          have hsmall' := hsmall
          obtain ⟨⟨c1, c2⟩, ⟨c3, c4⟩, c5, c6⟩ := hsmall'
          have hQ5 := hQ.step hB
          have e0 := (hQ5).cell 0; have e1 := (hQ5).cell 1; have e2 := (hQ5).cell 2; have ef := (hQ5).free
          simp only [List.getElem?_cons_zero, List.getElem?_cons_succ] at e0 e1 e2
          clear hmax hmin hM hN hM' hM2 hN'
          iterate 8 go_step
          iterate 20 (with_reducible refine wpL_val (v := ?_) ?_ ?_ ?_; rotate_left; (· kernel_rfl); (· go_simp; try with_reducible rfl); conv => arg 5; simp only [Act.put, List.setIfInBounds_toArray, List.set_cons_zero, List.set_cons_succ])
          iterate 3 go_step
          refine wpList_nil ?_
          have h6 : Box (((wx.setCell ⟨g, 2, none⟩ (.int .i64 (s.p.x + q.x))).setCell ⟨g, 3, none⟩ (.int .i64 (s.p.y + q.y))).setCell ⟨g, 4, none⟩ (.int .i64 (s.p.z + q.z))) g [.int .i64 (mv q s).side, .int .i64 (mv q s).at_, .int .i64 (mv q s).p.x, .int .i64 (mv q s).p.y, .int .i64 (mv q s).p.z] 32 := ((h5.set 2 _).set 3 _).set 4 _
          have hB6 : Below w2.heap.size w2 (((wx.setCell ⟨g, 2, none⟩ (.int .i64 (s.p.x + q.x))).setCell ⟨g, 3, none⟩ (.int .i64 (s.p.y + q.y))).setCell ⟨g, 4, none⟩ (.int .i64 (s.p.z + q.z))) := ((hB.setCell hg _).setCell hg _).setCell hg _
          have hO6 : OwnS (((wx.setCell ⟨g, 2, none⟩ (.int .i64 (s.p.x + q.x))).setCell ⟨g, 3, none⟩ (.int .i64 (s.p.y + q.y))).setCell ⟨g, 4, none⟩ (.int .i64 (s.p.z + q.z))) w2.heap.size u6 ((l.take j).map (mv q)) := hO.step (by rw [HGW.out]; exact ((hBr.setCell (Nat.le_refl _) _).setCell (Nat.le_refl _) _).setCell (Nat.le_refl _) _)
          have hsz6 : w2.heap.size ≤ (((wx.setCell ⟨g, 2, none⟩ (.int .i64 (s.p.x + q.x))).setCell ⟨g, 3, none⟩ (.int .i64 (s.p.y + q.y))).setCell ⟨g, 4, none⟩ (.int .i64 (s.p.z + q.z))).heap.size := hB6.size
          clear hO hB hBr h5 q0 q1 q2 q3 q4 qf e0 e1 e2 ef hQ5 d1 d2 d3 d4 d5 d6 at1
          revert h6 hB6 hO6 hsz6
          generalize (((wx.setCell ⟨g, 2, none⟩ (.int .i64 (s.p.x + q.x))).setCell ⟨g, 3, none⟩ (.int .i64 (s.p.y + q.y))).setCell ⟨g, 4, none⟩ (.int .i64 (s.p.z + q.z))) = w6
          intro h6 hB6 hO6 hsz6
          iterate 3 go_step
          iterate 1 (with_reducible refine wpL_val (v := ?_) ?_ ?_ ?_; rotate_left; (· kernel_rfl); (· go_simp; try with_reducible rfl); conv => arg 5; simp only [Act.put, List.setIfInBounds_toArray, List.set_cons_zero, List.set_cons_succ])
          refine wpL_load (l := [.int .i64 (mv q s).side, .int .i64 (mv q s).at_, .int .i64 (mv q s).p.x, .int .i64 (mv q s).p.y, .int .i64 (mv q s).p.z]) (by rfl) (by rfl) h6 Try.underlying32 (by rfl) (by kernel_rfl) (by kernel_rfl) ?_
          conv => arg 5; simp only [Act.put, List.setIfInBounds_toArray, List.set_cons_zero, List.set_cons_succ]
          refine wpL_go (v := .slice (some ⟨w6.heap.size, 0, none⟩) 1 1) (w' := w6.alloc (.cells [.int .i64 (mv q s).side, .int .i64 (mv q s).at_, .int .i64 (mv q s).p.x, .int .i64 (mv q s).p.y, .int .i64 (mv q s).p.z].toArray 32)) (by kernel_rfl) (by go_simp) ?_
          conv => arg 5; simp only [Act.put, List.setIfInBounds_toArray, List.set_cons_zero, List.set_cons_succ]
          have hN7 : Box (w6.alloc (.cells [.int .i64 (mv q s).side, .int .i64 (mv q s).at_, .int .i64 (mv q s).p.x, .int .i64 (mv q s).p.y, .int .i64 (mv q s).p.z].toArray 32)) w6.heap.size [.int .i64 (mv q s).side, .int .i64 (mv q s).at_, .int .i64 (mv q s).p.x, .int .i64 (mv q s).p.y, .int .i64 (mv q s).p.z] 32 := Box.new rfl
          have hO7 := hO6.step ((Below.refl _ w6).alloc (Nat.le_refl _) (.cells [.int .i64 (mv q s).side, .int .i64 (mv q s).at_, .int .i64 (mv q s).p.x, .int .i64 (mv q s).p.y, .int .i64 (mv q s).p.z].toArray 32))
          have hB7 := hB6.alloc hsz6 (.cells [.int .i64 (mv q s).side, .int .i64 (mv q s).at_, .int .i64 (mv q s).p.x, .int .i64 (mv q s).p.y, .int .i64 (mv q s).p.z].toArray 32)
          refine wpL_app (t := mv q s) rfl (.tmp 89) (.tmp 91) (by rfl) (by rfl) hO7 (by rfl) (hN7.part 0 5) hlen hB7.size ?_
          intro v8 w8 hO8 hB8
          have hB8 := hB8 _ hB7
          conv => arg 5; simp only [Act.put, List.setIfInBounds_toArray, List.set_cons_zero, List.set_cons_succ]
          iterate 1 (with_reducible refine wpL_val (v := ?_) ?_ ?_ ?_; rotate_left; (· kernel_rfl); (· go_simp; try with_reducible rfl); conv => arg 5; simp only [Act.put, List.setIfInBounds_toArray, List.set_cons_zero, List.set_cons_succ])
          refine wpList_nil ?_
          rw [show (l.take j).map (mv q) ++ [mv q s] = (l.take (j + 1)).map (mv q) by rw [HTK.out, List.map_append]; rfl] at hO8
          have hsm : ∀ y ∈ l.take (j + 1), small y := fun y hy => by
            rw [HTK.out] at hy
            rcases List.mem_append.1 hy with hy | hy
            · exact HSM.out y hy
            · obtain rfl := List.mem_singleton.1 hy; exact hsmall
          clear HTK HSM hO7 hB7 hN7 hO6 h6 hB6
          go_wp2
          exact ⟨⟨j + 1, by simp, by omega, hsm, hO8, hB8⟩, by simp [intOf]; omega⟩
    · as_aux_lemma =>
      have hjn : j = n := by omega
      subst hjn
      have t1 : decide ((j : Int) < (j : Int)) = false := by simp
      rw [List.take_of_length_le (by rw [HL.out.1]; omega)] at hsm hO
      obtain ⟨Am, cm, rfl, hm⟩ := hO.sl
      have HPat := Lib.hid (PPa.patchC cap wr (HL.out.step hB))
      have HCM := Lib.hid (check_moved hsm htn.out); have HPM := Lib.hid (patch_moved hsm htn.out)
      have HSP := Lib.hid fun s (hs : s ∈ patchS l) => hsm s ((patch_sub l).subset hs)
      have HQ := Lib.hid (hQ.step hB)
      have hW := hW.trans (hB.mono hW.size)
      have hlq := hlq; have hlq' := hB.size
      generalize hmm : l.map (mv q) = m at *
      have hml : m.length = j := by rw [← hmm, List.length_map]; exact HL.out.1
      rw [hml] at hm ⊢
      clear hO hsm hB hQ hmm hml hlt
      go_wp2_with fail
      refine HPat.out.mono ?_
      rintro e w9 ⟨v9, rfl, hO9, hS⟩
      have hm := hm.step hS; have HQ := Lib.hid (HQ.out.step hS); have hW := hW.trans (hS.mono hW.size)
      have hlq' := Nat.le_trans hlq' hS.size
      clear hS HPat
      go_wp2_with fail
      refine (PPa.patchC cm w9 hm).mono ?_
      rintro e w11 ⟨v11, rfl, hO11, hS⟩
      have hO9 := hO9.step hS; have HQ := Lib.hid (HQ.out.step hS); have hW := hW.trans (hS.mono hW.size)
      have hlq' := Nat.le_trans hlq' hS.size
      rw [HPM.out] at hO11
      rw [HCM.out]
      clear hS HCM HPM
      have hk4 := patch_len l
      generalize checkS l = c at *
      generalize patchS l = r at *
      obtain ⟨A9, c9, rfl, h9⟩ := hO9.sl
      obtain ⟨A11, c11, rfl, h11⟩ := hO11.sl
      rw [List.length_map] at h11 ⊢
      have HR := Lib.hid h9.1
      obtain ⟨k, hk⟩ : ∃ k, r.length = k := ⟨_, rfl⟩
      rw [hk] at h9 h11 hk4 ⊢
      have e0 : (c != c) = false := by simp
      have e1 : ((k : Int) != (k : Int)) = false := by simp
      clear hO9 hO11
      have H9 := Lib.hid h9; have H11 := Lib.hid h11
      clear h9 h11
      go_wp2_with fail
      go_loopw [13] (fun i wr => ∃ j : Nat, i = .int .i64 j ∧ j ≤ k ∧ Below w11.heap.size w11 wr) (fun i _ => k - (intOf i).toNat)
      case atStart => exact ⟨0, rfl, Nat.zero_le _, Below.refl _ _⟩
      case round =>
        obtain ⟨i, rfl, hi, hB⟩ := hrel
        have hsz := hB.size
        by_cases hlt : i < k
        · obtain ⟨s, hs⟩ : ∃ s, r[i]? = some s := ⟨_, List.getElem?_eq_getElem (by omega)⟩
          obtain ⟨b, off, rfl, hb, hsl⟩ := H9.out.2 (by omega)
          obtain ⟨b2, off2, rfl, hb2, hsl2⟩ := H11.out.2 (by omega)
          have at1 := Lib.hid (hsl.step hb hB i s hs)
          have at2 := hsl2.step hb2 hB i (mv q s) (by rw [List.getElem?_map, hs]; rfl)
          have hsmall := HSP.out s (List.mem_of_getElem? hs)
          have t1 : decide ((i : Int) < (k : Int)) = true := by simpa using hlt
          have hQ5 := HQ.out.step hB
          have AT2 := Lib.hid at2
          clear hs hsl hsl2 at2
          iterate 4 go_step
          iterate 4 (with_reducible refine wpL_val (v := ?_) ?_ ?_ ?_; rotate_left; (· kernel_rfl); (· go_simp; try with_reducible rfl); conv => arg 5; simp only [Act.put, List.setIfInBounds_toArray, List.set_cons_zero, List.set_cons_succ])
          refine wpList_nil ?_
          iterate 10 go_step
          iterate 3 (with_reducible refine wpL_val (v := ?_) ?_ ?_ ?_; rotate_left; (· kernel_rfl); (· go_simp; try with_reducible rfl); conv => arg 5; simp only [Act.put, List.setIfInBounds_toArray, List.set_cons_zero, List.set_cons_succ])
          refine wpL_at (l := [.int .i64 s.side, .int .i64 s.at_, .int .i64 s.p.x, .int .i64 s.p.y, .int .i64 s.p.z]) (by rfl) (by rfl) at1.out Try.underlying32 (by rfl) (by kernel_rfl) (by kernel_rfl) ?_
          conv => arg 5; simp only [Act.put, List.setIfInBounds_toArray, List.set_cons_zero, List.set_cons_succ]
          refine wpL_go (v := .pointer (some ⟨wr.heap.size, 0, none⟩)) (w' := wr.alloc (.cells [.int .i64 0, .int .i64 0, .int .i64 0, .int .i64 0, .int .i64 0].toArray 32)) (by kernel_rfl) (by go_simp) ?_
          conv => arg 5; simp only [Act.put, List.setIfInBounds_toArray, List.set_cons_zero, List.set_cons_succ]
          refine wpL_store (cs := [.int .i64 s.side, .int .i64 s.at_, .int .i64 s.p.x, .int .i64 s.p.y, .int .i64 s.p.z]) (by rfl) (by rfl) (by rfl) (Box.new rfl) (by kernel_rfl) (by rfl) (by simp [Value.oneCell']) (by kernel_rfl) ?_
          conv => arg 5; simp only [Act.put, List.setIfInBounds_toArray, List.set_cons_zero, List.set_cons_succ]
          rw [alloc_setRow]
          refine wpList_nil ?_
          have h5 : Box (wr.alloc (.cells [.int .i64 s.side, .int .i64 s.at_, .int .i64 s.p.x, .int .i64 s.p.y, .int .i64 s.p.z].toArray 32)) wr.heap.size [.int .i64 s.side, .int .i64 s.at_, .int .i64 s.p.x, .int .i64 s.p.y, .int .i64 s.p.z] 32 := Box.new rfl
          have hBr := (Below.refl wr.heap.size wr).alloc (Nat.le_refl _) (.cells [.int .i64 s.side, .int .i64 s.at_, .int .i64 s.p.x, .int .i64 s.p.y, .int .i64 s.p.z].toArray 32)
          have hQ5 := hQ5.step hBr
          have hbr : b2 < wr.heap.size := by omega
          have hlq5 : w1.heap.size ≠ wr.heap.size := by omega
          revert h5 hBr hQ5
          generalize wr.alloc (.cells [.int .i64 s.side, .int .i64 s.at_, .int .i64 s.p.x, .int .i64 s.p.y, .int .i64 s.p.z].toArray 32) = wx
          generalize hgw : wr.heap.size = g
          have HGW := Lib.hid hgw
          rw [hgw] at hsz hbr hlq5
          clear hgw
          intro h5 hBr hQ5
          have q0 := (h5).cell 0; have q1 := (h5).cell 1; have q2 := (h5).cell 2; have q3 := (h5).cell 3; have q4 := (h5).cell 4; have qf := (h5).free
          simp only [List.getElem?_cons_zero, List.getElem?_cons_succ] at q0 q1 q2 q3 q4
          have e0 := (hQ5).cell 0; have e1 := (hQ5).cell 1; have e2 := (hQ5).cell 2; have ef := (hQ5).free
          simp only [List.getElem?_cons_zero, List.getElem?_cons_succ] at e0 e1 e2
          obtain ⟨⟨d1, d2⟩, ⟨d3, d4⟩, d5, d6⟩ := htn.out
          obtain ⟨⟨c1, c2⟩, ⟨c3, c4⟩, c5, c6⟩ := hsmall
          iterate 4 go_step
          iterate 20 (with_reducible refine wpL_val (v := ?_) ?_ ?_ ?_; rotate_left; (· kernel_rfl); (· go_simp; try with_reducible rfl); conv => arg 5; simp only [Act.put, List.setIfInBounds_toArray, List.set_cons_zero, List.set_cons_succ])
          iterate 3 go_step
          refine wpList_nil ?_
          have h6 : Box (((wx.setCell ⟨g, 2, none⟩ (.int .i64 (s.p.x + q.x))).setCell ⟨g, 3, none⟩ (.int .i64 (s.p.y + q.y))).setCell ⟨g, 4, none⟩ (.int .i64 (s.p.z + q.z))) g [.int .i64 (mv q s).side, .int .i64 (mv q s).at_, .int .i64 (mv q s).p.x, .int .i64 (mv q s).p.y, .int .i64 (mv q s).p.z] 32 := ((h5.set 2 _).set 3 _).set 4 _
          have hB6 : Below g wr (((wx.setCell ⟨g, 2, none⟩ (.int .i64 (s.p.x + q.x))).setCell ⟨g, 3, none⟩ (.int .i64 (s.p.y + q.y))).setCell ⟨g, 4, none⟩ (.int .i64 (s.p.z + q.z))) := ((hBr.setCell (Nat.le_refl _) _).setCell (Nat.le_refl _) _).setCell (Nat.le_refl _) _
          clear hBr h5 q0 q1 q2 q3 q4 qf e0 e1 e2 ef hQ5 d1 d2 d3 d4 d5 d6 at1
          revert h6 hB6
          generalize (((wx.setCell ⟨g, 2, none⟩ (.int .i64 (s.p.x + q.x))).setCell ⟨g, 3, none⟩ (.int .i64 (s.p.y + q.y))).setCell ⟨g, 4, none⟩ (.int .i64 (s.p.z + q.z))) = w6
          intro h6 hB6
          have hB7 : Below w11.heap.size w11 w6 := hB.trans (hB6.mono hsz)
          rw [← HGW.out] at hB6 hbr
          have AT2 := Lib.hid (AT2.out.step hbr hB6)
          have hb6 : b2 < w6.heap.size := by have := hB6.size; omega
          clear hB6
          iterate 3 go_step
          refine wp_region_ph [(6, .free [])] (by kernel_rfl) (by kernel_rfl) ?_
          refine Ph.belowd ?_
          simp only [List.drop_succ_cons, List.drop_zero, List.take_succ_cons, List.take_zero, Nat.reduceSub, Nat.sub_zero]
          refine SeqO.row (l := [.int .i64 (mv q s).side, .int .i64 (mv q s).at_, .int .i64 (mv q s).p.x, .int .i64 (mv q s).p.y, .int .i64 (mv q s).p.z]) (by rfl) (by rfl) h6 Try.underlying32 (by rfl) (by kernel_rfl) (by rfl) (by rfl) ?_
          simp only [Act.put, List.setIfInBounds_toArray, List.set_cons_zero, List.set_cons_succ]
          iterate 3 (refine SeqO.val (v := ?_) (by rfl) (by rfl) (fun w1 hS => ?_) ?_; rotate_left; (· obtain ⟨hc, hcf⟩ := bcell hS; go_simp; try with_reducible rfl); simp only [Act.put, List.setIfInBounds_toArray, List.set_cons_zero, List.set_cons_succ])
          refine SeqO.at (l := [.int .i64 (mv q s).side, .int .i64 (mv q s).at_, .int .i64 (mv q s).p.x, .int .i64 (mv q s).p.y, .int .i64 (mv q s).p.z]) (by rfl) (by rfl) hb6 AT2.out Try.underlying32 (by rfl) (by kernel_rfl) (by rfl) (by rfl) ?_
          simp only [Act.put, List.setIfInBounds_toArray, List.set_cons_zero, List.set_cons_succ]
          refine SeqO.val (v := .bool false) (by rfl) (by rfl) (fun w1 hS => ?_) ?_
          · skip
            exact run_bin_agg (by rfl) (by rfl) (by rfl) guardSt ((spotNeq (mv q s) (mv q s) w1).trans (by rw [decide_eq_true rfl]; rfl))
          simp only [Act.put, List.setIfInBounds_toArray, List.set_cons_zero, List.set_cons_succ]
          refine SeqO.nil0 fun w8 hS => ?_
          refine Ph.last ?_
          simp only [List.drop_succ_cons, List.drop_zero, List.take_succ_cons, List.take_zero, Nat.reduceSub, Nat.sub_zero]
          have hB8 := hB7.trans (hS.mono hB7.size)
          refine wpList_nil ?_
          clear hB hB7 hS h6 AT2
          go_wp2
          exact ⟨⟨i + 1, by simp, by omega, hB8⟩, by simp [intOf]; omega⟩
        · have hik : i = k := by omega
          subst hik
          have t1 : decide ((i : Int) < (i : Int)) = false := by simp
          go_wp2_with fail
          refine (PSq.awakeC _).mono ?_
          rintro e w12 ⟨rfl, hS⟩
          have hW := (hW.trans (hB.mono hW.size)).trans (hS.mono (by have := hW.size; omega))
          go_wp2
          go_ret
          exact ⟨rfl, hW⟩
theorem movedC {A : Option Addr} {n : Nat} (cap : Nat) {l : List Spo} (p : Pt) (w : World) (hl : SlS w A n l) : RetB Try.prog 5 #[.slice A n cap, .agg #[.int .i64 p.x, .int .i64 p.y, .int .i64 p.z]] w (.bool true) := by
  by_cases hn : n ≤ 100
  · by_cases hp : p.ok
    · exact movedOk cap p w hl hn hp
    · exact movedFar p w hn hp
  · exact movedBig p w (by omega)
end PMv
end Go.Proofs.Ytbbiefgmlklafaa
