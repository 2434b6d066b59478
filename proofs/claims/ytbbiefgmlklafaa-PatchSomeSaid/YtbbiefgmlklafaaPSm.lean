/- The law PatchSome: the walk. Condition: the slice's cells are as told. -/
import Derived.Test.YtbbiefgmlklafaaPSo
namespace Go.Proofs.Ytbbiefgmlklafaa
set_option linter.unusedVariables false
set_option linter.unusedSimpArgs false
open Go.RowKit Go.NP
namespace PSm
open PGr PCk PCl PPl PSo
theorem cf6 (args : Array Value) (w1 : World) : (callFunc 6 args).run Try.prog w1 = .ok (.enter 6 args) w1 := enters Try.func6 (by kernel_rfl) (by kernel_rfl) args w1
theorem cf12 (args : Array Value) (w1 : World) : (callFunc 12 args).run Try.prog w1 = .ok (.enter 12 args) w1 := enters Try.func12 (by kernel_rfl) (by kernel_rfl) args w1
theorem cf13 (args : Array Value) (w1 : World) : (callFunc 13 args).run Try.prog w1 = .ok (.enter 13 args) w1 := enters Try.func13 (by kernel_rfl) (by kernel_rfl) args w1
theorem cf7 (args : Array Value) (w1 : World) : (callFunc 7 args).run Try.prog w1 = .ok (.enter 7 args) w1 := enters Try.func7 (by kernel_rfl) (by kernel_rfl) args w1
theorem cf9 (args : Array Value) (w1 : World) : (callFunc 9 args).run Try.prog w1 = .ok (.enter 9 args) w1 := enters Try.func9 (by kernel_rfl) (by kernel_rfl) args w1
set_option maxRecDepth 100000 in
set_option maxHeartbeats 2000000 in
theorem someBig {A : Option Addr} {n cap : Nat} (w : World) (hn : 300 < n) : RetB Try.prog 4 #[.slice A n cap] w (.bool true) := by
  have t : decide ((n : Int) > 300) = true := decide_eq_true (by omega)
  unfold RetB
  go_enter Try.func4, Try.ntmps4
  go_wp2_with fail
  refine (PSq.awakeC _).mono ?_
  rintro e w1 ⟨rfl, hS⟩
  go_wp2
  go_ret
  exact ⟨rfl, hS⟩
set_option maxRecDepth 100000 in
set_option maxHeartbeats 2000000 in
theorem someBad {A : Option Addr} {n cap : Nat} {l : List Spo} (w : World) (hl : SlS w A n l) (hn : n ≤ 300) (hc : ¬ checkS l = 0) : RetB Try.prog 4 #[.slice A n cap] w (.bool true) := by
  have t : decide ((n : Int) > 300) = false := decide_eq_false (by omega)
  have e0 : (checkS l != 0) = true := by simpa using hc
  have hp : patchS l = [] := by unfold patchS; rw [if_neg hc]
  have HL := Lib.hid hl
  have HP := Lib.hid hp
  clear hl hp hc
  unfold RetB
  go_enter Try.func4, Try.ntmps4
  go_wp2_with fail
  refine (PPa.patchC cap w HL.out).mono ?_
  rintro e w1 ⟨v, rfl, hO, hS⟩
  rw [HP.out] at hO
  obtain ⟨A1, c1, rfl, _⟩ := hO.sl
  clear HL HP hO
  generalize checkS l = c at *
  go_wp2_with fail
  refine (PSq.awakeC _).mono ?_
  rintro e w2 ⟨rfl, hS2⟩
  have hW := hS.trans (hS2.mono hS.size)
  go_wp2
  go_ret
  exact ⟨rfl, hW⟩
set_option maxRecDepth 100000 in
set_option maxHeartbeats 2000000 in
theorem someOk {A : Option Addr} {n cap : Nat} {l : List Spo} (w : World) (hl : SlS w A n l) (hc : checkS l = 0) : RetB Try.prog 4 #[.slice A n cap] w (.bool true) := by
  obtain ⟨hn, hnm, hok⟩ := checkS_ok hc
  have hln := hl.1
  have t : decide ((n : Int) > 300) = false := decide_eq_false (by omega)
  have HL := Lib.hid hl; have HC := Lib.hid hc; have HOK := Lib.hid hok
  clear hl hnm hok hc
  unfold RetB
  go_enter Try.func4, Try.ntmps4
  go_wp2_with fail
  refine (PPa.patchC cap w HL.out).mono ?_
  rintro e w1 ⟨v, rfl, hO, hW⟩
  rw [HC.out]
  obtain ⟨A1, c1, rfl, hp⟩ := hO.sl
  have hl := HL.out.step hW
  have hsub := patch_sub l
  have hk := patch_len l
  have hpo := patch_own HC.out
  have hpf := fun s (hs : s ∈ l) => patch_far HC.out hs
  have hfst := patch_first HC.out
  have hfew := fun h => congrArg List.length (patch_few HC.out h)
  generalize hpe : patchS l = p at *
  clear hpe
  obtain ⟨k, hkp⟩ : ∃ k, p.length = k := ⟨_, rfl⟩
  rw [hkp] at hp hk hfew ⊢
  have hw1 := hW.size
  clear HL hO
  have HL := Lib.hid hl; have HP := Lib.hid hp; have HPO := Lib.hid hpo; have HPF := Lib.hid hpf; have HF := Lib.hid hfst; have HFEW := Lib.hid hfew; have HSUB := Lib.hid hsub
  have hsb := Lib.hid hsub
  clear hl hp hpo hpf hfst hfew hsub
  go_wp2_with fail
  go_loopw [5, 6] (fun q i wr => ∃ a j : Nat, q = .int .i64 a ∧ i = .int .i64 j ∧ j ≤ n ∧ a ≤ k ∧ (p.drop a).Sublist (l.drop j) ∧ Below w1.heap.size w1 wr) (fun _ i _ => n - (intOf i).toNat)
  case atStart => exact ⟨0, 0, rfl, rfl, Nat.zero_le _, Nat.zero_le _, HSUB.out, Below.refl _ _⟩
  case round =>
    obtain ⟨a, j, rfl, rfl, hj, ha, hgr, hB⟩ := hrel
    by_cases hlt : j < n ∧ a < k
    · obtain ⟨s, hs⟩ : ∃ s, l[j]? = some s := ⟨_, List.getElem?_eq_getElem (by omega)⟩
      obtain ⟨t', ht⟩ : ∃ t, p[a]? = some t := ⟨_, List.getElem?_eq_getElem (by rw [HP.out.1]; exact hlt.2)⟩
      obtain ⟨b, off, rfl, hb, hsl⟩ := HL.out.2 (by omega)
      obtain ⟨b2, off2, rfl, hb2, hsm⟩ := HP.out.2 (by omega)
      have hsz := hB.size
      have at1 := Lib.hid (hsl.step hb hB j s hs)
      have at2 := Lib.hid (hsm.step hb2 hB a t' ht)
      have GY := Lib.hid (fun e : s = t' => greedy_yes hgr hs (e ▸ ht))
      have GN := Lib.hid (fun e : ¬ s = t' => greedy_no hgr hs ht e)
      have t1 : decide ((j : Int) < (n : Int)) = true := by simpa using hlt.1
      have t2 : decide ((a : Int) < (k : Int)) = true := by simpa using hlt.2
      clear hs ht hgr hsl hsm
      iterate 4 go_step
      iterate 10 (with_reducible refine wpL_val (v := ?_) ?_ ?_ ?_; rotate_left; (· kernel_rfl); (· go_simp; try with_reducible rfl); conv => arg 5; simp only [Act.put, List.setIfInBounds_toArray, List.set_cons_zero, List.set_cons_succ])
      refine wpList_nil ?_
      iterate 9 go_step
      refine wp_region_ph [(9, .free [])] (by kernel_rfl) (by kernel_rfl) ?_
      refine Ph.belowd ?_
      simp only [List.drop_succ_cons, List.drop_zero, List.take_succ_cons, List.take_zero, Nat.reduceSub, Nat.sub_zero]
      iterate 3 (refine SeqO.val (v := ?_) (by rfl) (by rfl) (fun w1 hS => ?_) ?_; rotate_left; (· obtain ⟨hc, hcf⟩ := bcell hS; go_simp; try with_reducible rfl); simp only [Act.put, List.setIfInBounds_toArray, List.set_cons_zero, List.set_cons_succ])
      refine SeqO.at (l := [.int .i64 s.side, .int .i64 s.at_, .int .i64 s.p.x, .int .i64 s.p.y, .int .i64 s.p.z]) (by rfl) (by rfl) (by omega : b < wr.heap.size) at1.out Try.underlying32 (by rfl) (by kernel_rfl) (by rfl) (by rfl) ?_
      simp only [Act.put, List.setIfInBounds_toArray, List.set_cons_zero, List.set_cons_succ]
      iterate 3 (refine SeqO.val (v := ?_) (by rfl) (by rfl) (fun w1 hS => ?_) ?_; rotate_left; (· obtain ⟨hc, hcf⟩ := bcell hS; go_simp; try with_reducible rfl); simp only [Act.put, List.setIfInBounds_toArray, List.set_cons_zero, List.set_cons_succ])
      refine SeqO.at (l := [.int .i64 t'.side, .int .i64 t'.at_, .int .i64 t'.p.x, .int .i64 t'.p.y, .int .i64 t'.p.z]) (by rfl) (by rfl) (by omega : b2 < wr.heap.size) at2.out Try.underlying32 (by rfl) (by kernel_rfl) (by rfl) (by rfl) ?_
      simp only [Act.put, List.setIfInBounds_toArray, List.set_cons_zero, List.set_cons_succ]
      refine SeqO.val (v := .bool (decide (s = t'))) (by rfl) (by rfl) (fun w1 hS => ?_) ?_
      · skip
        exact run_bin_agg (by rfl) (by rfl) (by rfl) guardSt (spotEql s t' w1)
      simp only [Act.put, List.setIfInBounds_toArray, List.set_cons_zero, List.set_cons_succ]
      refine SeqO.nil0 fun w3 hS3 => ?_
      refine Ph.last ?_
      simp only [List.drop_succ_cons, List.drop_zero, List.take_succ_cons, List.take_zero, Nat.reduceSub, Nat.sub_zero]
      have hB := hB.trans (hS3.mono hB.size)
      refine wpList_nil ?_
      by_cases e : s = t'
      · rw [decide_eq_true e]
        have hg := GY.out e
        clear GY GN
        go_wp2
        exact ⟨⟨a + 1, j + 1, by simp, by simp, by omega, by omega, hg, hB⟩, by simp [intOf]; omega⟩
      · rw [decide_eq_false e]
        have hg := GN.out e
        clear GY GN
        go_wp2
        exact ⟨⟨a, j + 1, rfl, by simp, by omega, by omega, hg, hB⟩, by simp [intOf]; omega⟩
    · have hak : a = k := by
        rcases Nat.lt_or_ge j n with h | h
        · omega
        · have := greedy_end hgr (by omega); rw [HP.out.1] at this; omega
      subst hak
      have t2 : decide ((a : Int) < (a : Int)) = false := by simp
      have e1 : ((a : Int) != (a : Int)) = false := by simp
      have e2 : decide ((a : Int) > 4) = false := decide_eq_false (by omega)
      clear HSUB hlt hgr hkp
      have hmin : (n : Int) ≤ 4 → (a : Int) = n := fun h => by have := HFEW.out (by omega); rw [hln] at this; omega
      have hpos : 0 < n → 0 < a := fun h => by
        have h1 := HF.out (by intro e; rw [e] at hln; simp at hln; omega)
        have h2 : l[0]? = some l[0] := List.getElem?_eq_getElem (by omega)
        rw [h2] at h1
        have := get_lt h1
        rw [HP.out.1] at this; exact this
      have e4 : decide ((a : Int) < min (n : Int) 1) = false := decide_eq_false (by have := hpos; omega)
      have HS := Lib.hid hpos
      have HF0 := Lib.hid (fun h : 0 < n => HF.out (by intro e; rw [e] at hln; simp at hln; omega))
      clear HF hpos
      have hT1 : (j < n ∧ decide ((j : Int) < (n : Int)) = true) ∨ (¬ j < n ∧ decide ((j : Int) < (n : Int)) = false) := by
        by_cases h : j < n
        · exact .inl ⟨h, by simpa using h⟩
        · exact .inr ⟨h, by simpa using h⟩
      have hT4 : (decide ((n : Int) ≤ 4) = true ∧ ((a : Int) != (n : Int)) = false) ∨ decide ((n : Int) ≤ 4) = false := by
        by_cases h : (n : Int) ≤ 4
        · exact .inl ⟨decide_eq_true h, by simp [hmin h]⟩
        · exact .inr (decide_eq_false h)
      clear hmin HFEW
      have HPat := Lib.hid (PPa.patchC c1 wr (HP.out.step hB))
      have HL := Lib.hid (HL.out.step hB)
      have HP := Lib.hid (HP.out.step hB)
      have hW := hW.trans (hB.mono hW.size)
      rw [HPO.out.1, HPO.out.2] at HPat
      clear hB
      rcases hT4 with ⟨t4, t5⟩ | t4 <;> rcases hT1 with ⟨hjn, t1⟩ | ⟨hjn, t1⟩ <;> (go_wp2_with fail)
      all_goals
        clear t1 hjn t4 e4 e2 t2
        refine HPat.out.mono ?_
        rintro e w3 ⟨v, rfl, hO, hS⟩
        have HL := Lib.hid (HL.out.step hS); have HP := Lib.hid (HP.out.step hS); have hW := hW.trans (hS.mono hW.size)
        obtain ⟨A5, c5, rfl, hp5⟩ := hO.sl
        rw [HP.out.1] at hp5 ⊢
        clear hS hO HPat
        go_wp2_with fail
        refine ((PSa.sameC w3 HP.out hp5 (by omega)).eq (v' := .bool true) (by simp)).mono ?_
        rintro e w4 ⟨rfl, hS⟩
        have HL := Lib.hid (HL.out.step hS); have HP := Lib.hid (HP.out.step hS); have hW := hW.trans (hS.mono hW.size)
        clear hS
        by_cases h0 : ((n : Int) == 0) = true
        · go_wp2_with fail
          refine (PSq.awakeC _).mono ?_
          rintro e w5 ⟨rfl, hS⟩
          have hW := hW.trans (hS.mono hW.size)
          go_wp2
          go_ret
          exact ⟨rfl, hW⟩
        · have h0' : ((n : Int) == 0) = false := by simpa using h0
          have hn0 : 0 < n := by have : ¬ n = 0 := by simpa using h0
                                 omega
          have ha0 := HS.out hn0
          obtain ⟨b, off, rfl, hb, hsl⟩ := HL.out.2 hn0
          obtain ⟨b2, off2, rfl, hb2, hsm⟩ := HP.out.2 ha0
          have hl0 : l[0]? = some (nth l 0) := nth_get (by omega)
          have HHD := Lib.hid ((HF0.out hn0).trans hl0)
          generalize nth l 0 = s0 at *
          have SL := Lib.hid hsl; have SM := Lib.hid hsm; have HL0 := Lib.hid hl0
          have ok0 := HOK.out s0 (List.mem_of_getElem? hl0)
          have hpl := HP.out.1
          clear h0 hp5 HS HL HP hsl hsm hl0
          clear HL HP
          go_wp2_with fail
          go_loopw [10] (fun i wr => ∃ (q : Nat) (m : Int), q ≤ a ∧ i = .int .i64 q ∧ fits m ∧ Box wr w4.heap.size [.int .u64 (w8 m).a, .int .u64 (w8 m).b, .int .u64 (w8 m).c, .int .u64 (w8 m).d, .int .u64 (w8 m).e, .int .u64 (w8 m).f, .int .u64 (w8 m).g, .int .u64 (w8 m).h] 37 ∧ (∀ x ∈ p.take q, GDot.far x.p s0.p ≤ m) ∧ Below w4.heap.size w4 wr) (fun i _ => a - (intOf i).toNat)
          case atStart => exact ⟨0, 0, Nat.zero_le _, rfl, WidB.half_fits (by unfold WidB.half; omega), (Box.new rfl).cast GAl.ll_zero.symm, fun x hx => (by simp at hx), (Below.refl _ _).alloc (Nat.le_refl _) _⟩
          case round =>
            obtain ⟨q, m, hq, rfl, hm, hN, hmx, hB⟩ := hrel
            have hsz := hB.size
            by_cases hlt : q < a
            · obtain ⟨x, hx⟩ : ∃ x, p[q]? = some x := ⟨_, List.getElem?_eq_getElem (by omega)⟩
              have at1 := Lib.hid (SM.out.step hb2 hB q x hx)
              have at0 := Lib.hid (SL.out.step hb hB 0 s0 HL0.out)
              have okx := HOK.out x (hsb.out.subset (List.mem_of_getElem? hx))
              have O1 := Lib.hid (fun w => PSq.apartC okx ok0 w)
              have FD := WidB.half_fits (far_half okx ok0)
              have HTK := Lib.hid (take_snoc hx)
              have t1 : decide ((q : Int) < (a : Int)) = true := by simpa using hlt
              clear hx okx
              generalize hfd : GDot.far x.p s0.p = d at *
              iterate 4 go_step
              iterate 4 (with_reducible refine wpL_val (v := ?_) ?_ ?_ ?_; rotate_left; (· kernel_rfl); (· go_simp; try with_reducible rfl); conv => arg 5; simp only [Act.put, List.setIfInBounds_toArray, List.set_cons_zero, List.set_cons_succ])
              refine wpList_nil ?_
              iterate 9 go_step
              refine wp_region_ph [(9, .free [8])] (by kernel_rfl) (by kernel_rfl) ?_
              refine Ph.maded [(8, [.int .u64 0, .int .u64 0, .int .u64 0, .int .u64 0, .int .u64 0, .int .u64 0, .int .u64 0, .int .u64 0], 37)] (by rfl) ?_
              simp only [List.drop_succ_cons, List.drop_zero, List.take_succ_cons, List.take_zero, Nat.reduceSub, Nat.sub_zero]
              iterate 3 (refine SeqO.val (v := ?_) (by rfl) (by rfl) (fun w1 hS => ?_) ?_; rotate_left; (· obtain ⟨hc, hcf⟩ := bcell hS; go_simp; try with_reducible rfl); simp only [Act.put, List.setIfInBounds_toArray, List.set_cons_zero, List.set_cons_succ])
              refine SeqO.at (l := [.int .i64 x.side, .int .i64 x.at_, .int .i64 x.p.x, .int .i64 x.p.y, .int .i64 x.p.z]) (by rfl) (by rfl) (by omega : b2 < wr.heap.size) at1.out Try.underlying32 (by rfl) (by kernel_rfl) (by rfl) (by rfl) ?_
              simp only [Act.put, List.setIfInBounds_toArray, List.set_cons_zero, List.set_cons_succ]
              iterate 2 (refine SeqO.val (v := ?_) (by rfl) (by rfl) (fun w1 hS => ?_) ?_; rotate_left; (· obtain ⟨hc, hcf⟩ := bcell hS; go_simp; try with_reducible rfl); simp only [Act.put, List.setIfInBounds_toArray, List.set_cons_zero, List.set_cons_succ])
              refine SeqO.at (l := [.int .i64 s0.side, .int .i64 s0.at_, .int .i64 s0.p.x, .int .i64 s0.p.y, .int .i64 s0.p.z]) (by rfl) (by rfl) (by omega : b < wr.heap.size) at0.out Try.underlying32 (by rfl) (by kernel_rfl) (by rfl) (by rfl) ?_
              simp only [Act.put, List.setIfInBounds_toArray, List.set_cons_zero, List.set_cons_succ]
              refine SeqO.callv (by rfl) (by rfl) (by rfl) cf12 (by simp [Act.eval]) (fun w1 hS => O1.out w1) ?_
              simp only [Act.put, List.setIfInBounds_toArray, List.set_cons_zero, List.set_cons_succ]
              refine SeqO.alloc (cs := [.int .u64 0, .int .u64 0, .int .u64 0, .int .u64 0, .int .u64 0, .int .u64 0, .int .u64 0, .int .u64 0]) (Ty := 37) (by rfl) ⟨37, by simp⟩ (by rfl) (by simp) (by rfl) (fun w => by go_simp) ?_
              refine SeqO.nil fun L u' w5 hL hK => ?_
              obtain ⟨g8, hg, hge8, hbx⟩ := hK.made _ (List.mem_cons_self) (hL 8 (by omega))
              have hS := hK.below
              clear hK hL
              simp only [List.nil_append, List.foldl_cons, List.foldl_nil, hg]
              refine Ph.last ?_
              simp only [List.drop_succ_cons, List.drop_zero, List.take_succ_cons, List.take_zero, Nat.reduceSub, Nat.sub_zero]
              clear hg
              have hP : Box w5 g8 [.int .u64 0, .int .u64 0, .int .u64 0, .int .u64 0, .int .u64 0, .int .u64 0, .int .u64 0, .int .u64 0] 37 := hbx
              have hge8 : wr.heap.size ≤ g8 := hge8
              refine wpL_store (cs := [.int .u64 (w8 d).a, .int .u64 (w8 d).b, .int .u64 (w8 d).c, .int .u64 (w8 d).d, .int .u64 (w8 d).e, .int .u64 (w8 d).f, .int .u64 (w8 d).g, .int .u64 (w8 d).h]) (by rfl) (by rfl) (by rfl) hP (by kernel_rfl) (by rfl) (by simp [Value.oneCell']) (by kernel_rfl) ?_
              conv => arg 5; simp only [Act.put, List.setIfInBounds_toArray, List.set_cons_zero, List.set_cons_succ]
              refine wpList_nil ?_
              have h8 := hP.row [.int .u64 (w8 d).a, .int .u64 (w8 d).b, .int .u64 (w8 d).c, .int .u64 (w8 d).d, .int .u64 (w8 d).e, .int .u64 (w8 d).f, .int .u64 (w8 d).g, .int .u64 (w8 d).h]
              have hNl := hN.lt
              have hN := (hN.step hS).rowOther (g := g8) (by omega) [.int .u64 (w8 d).a, .int .u64 (w8 d).b, .int .u64 (w8 d).c, .int .u64 (w8 d).d, .int .u64 (w8 d).e, .int .u64 (w8 d).f, .int .u64 (w8 d).g, .int .u64 (w8 d).h].toArray
              have hB := below_setRow (hB.trans (hS.mono hB.size)) (g := g8) (by omega) [.int .u64 (w8 d).a, .int .u64 (w8 d).b, .int .u64 (w8 d).c, .int .u64 (w8 d).d, .int .u64 (w8 d).e, .int .u64 (w8 d).f, .int .u64 (w8 d).g, .int .u64 (w8 d).h].toArray
              clear hS hbx hP at1 at0 O1
              revert h8 hN hB
              generalize w5.setRow g8 [.int .u64 (w8 d).a, .int .u64 (w8 d).b, .int .u64 (w8 d).c, .int .u64 (w8 d).d, .int .u64 (w8 d).e, .int .u64 (w8 d).f, .int .u64 (w8 d).g, .int .u64 (w8 d).h].toArray = wx
              intro h8 hN hB
              have HQ := Lib.hid (cmp_pos d m)
              iterate 4 go_step
              refine wpL_load (l := [.int .u64 (w8 d).a, .int .u64 (w8 d).b, .int .u64 (w8 d).c, .int .u64 (w8 d).d, .int .u64 (w8 d).e, .int .u64 (w8 d).f, .int .u64 (w8 d).g, .int .u64 (w8 d).h]) (by rfl) (by rfl) h8 Try.underlying37 (by rfl) (by kernel_rfl) (by kernel_rfl) ?_
              conv => arg 5; simp only [Act.put, List.setIfInBounds_toArray, List.set_cons_zero, List.set_cons_succ]
              refine wpL_load (l := [.int .u64 (w8 m).a, .int .u64 (w8 m).b, .int .u64 (w8 m).c, .int .u64 (w8 m).d, .int .u64 (w8 m).e, .int .u64 (w8 m).f, .int .u64 (w8 m).g, .int .u64 (w8 m).h]) (by rfl) (by rfl) hN Try.underlying37 (by rfl) (by kernel_rfl) (by kernel_rfl) ?_
              conv => arg 5; simp only [Act.put, List.setIfInBounds_toArray, List.set_cons_zero, List.set_cons_succ]
              with_reducible refine wpL_call (ca := ?_) (args := ?_) ?_ ?_ cf13 ?_ ?_
              rotate_left 2
              · kernel_rfl
              · rfl
              · simp [Act.eval] <;> rfl
              refine (WidA.cmpW FD hm _).mono ?_
              rintro e wx2 ⟨rfl, hS⟩
              refine ⟨_, rfl, ?_⟩
              conv => arg 5; simp only [Act.put, List.setIfInBounds_toArray, List.set_cons_zero, List.set_cons_succ]
              have h8 := h8.step hS; have hN := hN.step hS; have hB := hB.trans (hS.mono hB.size)
              clear hS
              generalize cmpI d m = cq at *
              iterate 1 (with_reducible refine wpL_val (v := ?_) ?_ ?_ ?_; rotate_left; (· kernel_rfl); (· go_simp; try with_reducible rfl); conv => arg 5; simp only [Act.put, List.setIfInBounds_toArray, List.set_cons_zero, List.set_cons_succ])
              refine wpList_nil ?_
              by_cases hc : 0 < cq
              · have hdm := HQ.out.1 hc
                have hc' : decide (cq > 0) = true := decide_eq_true hc
                iterate 4 go_step
                refine wpL_load (l := [.int .u64 (w8 d).a, .int .u64 (w8 d).b, .int .u64 (w8 d).c, .int .u64 (w8 d).d, .int .u64 (w8 d).e, .int .u64 (w8 d).f, .int .u64 (w8 d).g, .int .u64 (w8 d).h]) (by rfl) (by rfl) h8 Try.underlying37 (by rfl) (by kernel_rfl) (by kernel_rfl) ?_
                conv => arg 5; simp only [Act.put, List.setIfInBounds_toArray, List.set_cons_zero, List.set_cons_succ]
                refine wpL_store (cs := [.int .u64 (w8 d).a, .int .u64 (w8 d).b, .int .u64 (w8 d).c, .int .u64 (w8 d).d, .int .u64 (w8 d).e, .int .u64 (w8 d).f, .int .u64 (w8 d).g, .int .u64 (w8 d).h]) (by rfl) (by rfl) (by rfl) hN (by kernel_rfl) (by rfl) (by simp [Value.oneCell']) (by kernel_rfl) ?_
                conv => arg 5; simp only [Act.put, List.setIfInBounds_toArray, List.set_cons_zero, List.set_cons_succ]
                refine wpList_nil ?_
                have hN := hN.row [.int .u64 (w8 d).a, .int .u64 (w8 d).b, .int .u64 (w8 d).c, .int .u64 (w8 d).d, .int .u64 (w8 d).e, .int .u64 (w8 d).f, .int .u64 (w8 d).g, .int .u64 (w8 d).h]
                have hB := below_setRow hB (g := w4.heap.size) (by omega) [.int .u64 (w8 d).a, .int .u64 (w8 d).b, .int .u64 (w8 d).c, .int .u64 (w8 d).d, .int .u64 (w8 d).e, .int .u64 (w8 d).f, .int .u64 (w8 d).g, .int .u64 (w8 d).h].toArray
                revert hN hB
                generalize wx2.setRow w4.heap.size [.int .u64 (w8 d).a, .int .u64 (w8 d).b, .int .u64 (w8 d).c, .int .u64 (w8 d).d, .int .u64 (w8 d).e, .int .u64 (w8 d).f, .int .u64 (w8 d).g, .int .u64 (w8 d).h].toArray = wy
                intro hN hB
                have hmx' : ∀ y ∈ p.take (q + 1), GDot.far y.p s0.p ≤ d := fun y hy => by
                  rw [HTK.out] at hy
                  rcases List.mem_append.1 hy with hy | hy
                  · have := hmx y hy; omega
                  · obtain rfl := List.mem_singleton.1 hy; omega
                clear HTK hmx HQ hdm hfd
                go_wp2
                exact ⟨⟨q + 1, d, by omega, by simp, FD, hN, hmx', hB⟩, by simp [intOf]; omega⟩
              · have hdm : ¬ m < d := fun h => hc (HQ.out.2 h)
                have hc' : decide (cq > 0) = false := decide_eq_false hc
                have hmx' : ∀ y ∈ p.take (q + 1), GDot.far y.p s0.p ≤ m := fun y hy => by
                  rw [HTK.out] at hy
                  rcases List.mem_append.1 hy with hy | hy
                  · exact hmx y hy
                  · obtain rfl := List.mem_singleton.1 hy; omega
                clear HTK hmx HQ hdm hfd
                go_wp2
                exact ⟨⟨q + 1, m, by omega, by simp, hm, hN, hmx', hB⟩, by simp [intOf]; omega⟩
            · have hqa : q = a := by omega
              subst hqa
              have t1 : decide ((q : Int) < (q : Int)) = false := by simp
              rw [List.take_of_length_le (by omega)] at hmx
              have HMX := Lib.hid fun s (hs : s ∈ l) => (by obtain ⟨x, hx, h⟩ := HPF.out s hs; exact Int.le_trans h (hmx x hx) : GDot.far s.p s0.p ≤ m)
              clear hmx hlt
              go_wp2_with fail
              go_loopw [12] (fun i wr => ∃ j : Nat, j ≤ n ∧ i = .int .i64 j ∧ Box wr w4.heap.size [.int .u64 (w8 m).a, .int .u64 (w8 m).b, .int .u64 (w8 m).c, .int .u64 (w8 m).d, .int .u64 (w8 m).e, .int .u64 (w8 m).f, .int .u64 (w8 m).g, .int .u64 (w8 m).h] 37 ∧ Below w4.heap.size w4 wr) (fun i _ => n - (intOf i).toNat)
              case atStart => exact ⟨0, Nat.zero_le _, rfl, hN, hB⟩
              case round =>
                clear hN hB hsz
                obtain ⟨j, hj, rfl, hN, hB⟩ := hrel
                have hsz := hB.size
                by_cases hlt : j < n
                · obtain ⟨x, hx⟩ : ∃ x, l[j]? = some x := ⟨_, List.getElem?_eq_getElem (by omega)⟩
                  have at1 := Lib.hid (SL.out.step hb hB j x hx)
                  have at0 := Lib.hid (SL.out.step hb hB 0 s0 HL0.out)
                  have okx := HOK.out x (List.mem_of_getElem? hx)
                  have O1 := Lib.hid (fun w => PSq.apartC okx ok0 w)
                  have FD := WidB.half_fits (far_half okx ok0)
                  have hle := HMX.out x (List.mem_of_getElem? hx)
                  have t1 : decide ((j : Int) < (n : Int)) = true := by simpa using hlt
                  clear hx okx
                  generalize hfd : GDot.far x.p s0.p = d at *
                  have O2 := Lib.hid (fun w => WidA.cmpW FD hm w)
                  have hc : decide (cmpI d m > 0) = false := decide_eq_false (fun h => by have := (cmp_pos d m).1 h; omega)
                  clear hfd
                  iterate 4 go_step
                  iterate 4 (with_reducible refine wpL_val (v := ?_) ?_ ?_ ?_; rotate_left; (· kernel_rfl); (· go_simp; try with_reducible rfl); conv => arg 5; simp only [Act.put, List.setIfInBounds_toArray, List.set_cons_zero, List.set_cons_succ])
                  refine wpList_nil ?_
                  iterate 9 go_step
                  refine wp_region_ph [(11, .free [])] (by kernel_rfl) (by kernel_rfl) ?_
                  refine Ph.belowd ?_
                  simp only [List.drop_succ_cons, List.drop_zero, List.take_succ_cons, List.take_zero, Nat.reduceSub, Nat.sub_zero]
                  iterate 3 (refine SeqO.val (v := ?_) (by rfl) (by rfl) (fun w1 hS => ?_) ?_; rotate_left; (· obtain ⟨hc, hcf⟩ := bcell hS; go_simp; try with_reducible rfl); simp only [Act.put, List.setIfInBounds_toArray, List.set_cons_zero, List.set_cons_succ])
                  refine SeqO.at (l := [.int .i64 x.side, .int .i64 x.at_, .int .i64 x.p.x, .int .i64 x.p.y, .int .i64 x.p.z]) (by rfl) (by rfl) (by omega : b < wr.heap.size) at1.out Try.underlying32 (by rfl) (by kernel_rfl) (by rfl) (by rfl) ?_
                  simp only [Act.put, List.setIfInBounds_toArray, List.set_cons_zero, List.set_cons_succ]
                  iterate 2 (refine SeqO.val (v := ?_) (by rfl) (by rfl) (fun w1 hS => ?_) ?_; rotate_left; (· obtain ⟨hc, hcf⟩ := bcell hS; go_simp; try with_reducible rfl); simp only [Act.put, List.setIfInBounds_toArray, List.set_cons_zero, List.set_cons_succ])
                  refine SeqO.at (l := [.int .i64 s0.side, .int .i64 s0.at_, .int .i64 s0.p.x, .int .i64 s0.p.y, .int .i64 s0.p.z]) (by rfl) (by rfl) (by omega : b < wr.heap.size) at0.out Try.underlying32 (by rfl) (by kernel_rfl) (by rfl) (by rfl) ?_
                  simp only [Act.put, List.setIfInBounds_toArray, List.set_cons_zero, List.set_cons_succ]
                  refine SeqO.callv (by rfl) (by rfl) (by rfl) cf12 (by simp [Act.eval]) (fun w1 hS => O1.out w1) ?_
                  simp only [Act.put, List.setIfInBounds_toArray, List.set_cons_zero, List.set_cons_succ]
                  refine SeqO.row (l := [.int .u64 (w8 m).a, .int .u64 (w8 m).b, .int .u64 (w8 m).c, .int .u64 (w8 m).d, .int .u64 (w8 m).e, .int .u64 (w8 m).f, .int .u64 (w8 m).g, .int .u64 (w8 m).h]) (by rfl) (by rfl) hN Try.underlying37 (by rfl) (by kernel_rfl) (by rfl) (by rfl) ?_
                  simp only [Act.put, List.setIfInBounds_toArray, List.set_cons_zero, List.set_cons_succ]
                  refine SeqO.callv (by rfl) (by rfl) (by rfl) cf13 (by simp [Act.eval]) (fun w1 hS => O2.out w1) ?_
                  simp only [Act.put, List.setIfInBounds_toArray, List.set_cons_zero, List.set_cons_succ]
                  iterate 1 (refine SeqO.val (v := ?_) (by rfl) (by rfl) (fun w1 hS => ?_) ?_; rotate_left; (· obtain ⟨hc, hcf⟩ := bcell hS; go_simp; try with_reducible rfl); simp only [Act.put, List.setIfInBounds_toArray, List.set_cons_zero, List.set_cons_succ])
                  refine SeqO.nil0 fun w5 hS => ?_
                  refine Ph.last ?_
                  simp only [List.drop_succ_cons, List.drop_zero, List.take_succ_cons, List.take_zero, Nat.reduceSub, Nat.sub_zero]
                  have hN := hN.step hS
                  have hB := hB.trans (hS.mono hB.size)
                  refine wpList_nil ?_
                  go_wp2
                  exact ⟨⟨j + 1, by omega, by simp, hN, hB⟩, by simp [intOf]; omega⟩
                · have t1 : decide ((j : Int) < (n : Int)) = false := by simpa using hlt
                  have at1 := Lib.hid (SM.out.step hb2 hB 0 s0 HHD.out)
                  have at0 := Lib.hid (SL.out.step hb hB 0 s0 HL0.out)
                  iterate 4 go_step
                  iterate 4 (with_reducible refine wpL_val (v := ?_) ?_ ?_ ?_; rotate_left; (· kernel_rfl); (· go_simp; try with_reducible rfl); conv => arg 5; simp only [Act.put, List.setIfInBounds_toArray, List.set_cons_zero, List.set_cons_succ])
                  refine wpList_nil ?_
                  iterate 9 go_step
                  refine wp_region_ph [(10, .free [])] (by kernel_rfl) (by kernel_rfl) ?_
                  refine Ph.belowd ?_
                  simp only [List.drop_succ_cons, List.drop_zero, List.take_succ_cons, List.take_zero, Nat.reduceSub, Nat.sub_zero]
                  iterate 2 (refine SeqO.val (v := ?_) (by rfl) (by rfl) (fun w1 hS => ?_) ?_; rotate_left; (· obtain ⟨hc, hcf⟩ := bcell hS; go_simp; try with_reducible rfl); simp only [Act.put, List.setIfInBounds_toArray, List.set_cons_zero, List.set_cons_succ])
                  refine SeqO.at (l := [.int .i64 s0.side, .int .i64 s0.at_, .int .i64 s0.p.x, .int .i64 s0.p.y, .int .i64 s0.p.z]) (by rfl) (by rfl) (by omega : b2 < wr.heap.size) at1.out Try.underlying32 (by rfl) (by kernel_rfl) (by rfl) (by rfl) ?_
                  simp only [Act.put, List.setIfInBounds_toArray, List.set_cons_zero, List.set_cons_succ]
                  iterate 2 (refine SeqO.val (v := ?_) (by rfl) (by rfl) (fun w1 hS => ?_) ?_; rotate_left; (· obtain ⟨hc, hcf⟩ := bcell hS; go_simp; try with_reducible rfl); simp only [Act.put, List.setIfInBounds_toArray, List.set_cons_zero, List.set_cons_succ])
                  refine SeqO.at (l := [.int .i64 s0.side, .int .i64 s0.at_, .int .i64 s0.p.x, .int .i64 s0.p.y, .int .i64 s0.p.z]) (by rfl) (by rfl) (by omega : b < wr.heap.size) at0.out Try.underlying32 (by rfl) (by kernel_rfl) (by rfl) (by rfl) ?_
                  simp only [Act.put, List.setIfInBounds_toArray, List.set_cons_zero, List.set_cons_succ]
                  refine SeqO.val (v := .bool true) (by rfl) (by rfl) (fun w1 hS => ?_) ?_
                  · skip
                    exact run_bin_agg (by rfl) (by rfl) (by rfl) guardSt ((spotEql s0 s0 w1).trans (by rw [decide_eq_true rfl]))
                  simp only [Act.put, List.setIfInBounds_toArray, List.set_cons_zero, List.set_cons_succ]
                  iterate 1 (refine SeqO.val (v := ?_) (by rfl) (by rfl) (fun w1 hS => ?_) ?_; rotate_left; (· obtain ⟨hc, hcf⟩ := bcell hS; go_simp; try with_reducible rfl); simp only [Act.put, List.setIfInBounds_toArray, List.set_cons_zero, List.set_cons_succ])
                  refine SeqO.callv (by rfl) (by rfl) (by rfl) cf6 (by simp [Act.eval]) (fun w1 hS => PSq.awakeC w1) ?_
                  simp only [Act.put, List.setIfInBounds_toArray, List.set_cons_zero, List.set_cons_succ]
                  iterate 1 (refine SeqO.val (v := ?_) (by rfl) (by rfl) (fun w1 hS => ?_) ?_; rotate_left; (· obtain ⟨hc, hcf⟩ := bcell hS; go_simp; try with_reducible rfl); simp only [Act.put, List.setIfInBounds_toArray, List.set_cons_zero, List.set_cons_succ])
                  refine SeqO.nil0 fun w5 hS => ?_
                  refine Ph.last ?_
                  simp only [List.drop_succ_cons, List.drop_zero, List.take_succ_cons, List.take_zero, Nat.reduceSub, Nat.sub_zero]
                  have hB := hB.trans (hS.mono hB.size)
                  iterate 1 (with_reducible refine wpL_val (v := ?_) ?_ ?_ ?_; rotate_left; (· kernel_rfl); (· go_simp; try with_reducible rfl); conv => arg 5; simp only [Act.put, List.setIfInBounds_toArray, List.set_cons_zero, List.set_cons_succ])
                  refine wpList_nil ?_
                  have hW := hW.trans (hB.mono hW.size)
                  go_wp2
                  go_ret
                  exact ⟨rfl, hW⟩
theorem someC {A : Option Addr} {n : Nat} (cap : Nat) {l : List Spo} (w : World) (hl : SlS w A n l) : RetB Try.prog 4 #[.slice A n cap] w (.bool true) := by
  by_cases hn : n ≤ 300
  · by_cases hc : checkS l = 0
    · exact someOk w hl hc
    · exact someBad w hl hn hc
  · exact someBig w (by omega)
end PSm
end Go.Proofs.Ytbbiefgmlklafaa
