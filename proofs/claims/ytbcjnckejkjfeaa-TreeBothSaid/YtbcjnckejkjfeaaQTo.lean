/- Meet of a number's bound, and pairs: the law's walk. Condition: the arguments are as told. Meet of a number's bound has that number, two are in each other's, or neither, as their bounds say, and pairs are just these. No condition. -/
import Derived.Test.YtbcjnckejkjfeaaQTb
namespace Go.Proofs.Ytbcjnckejkjfeaa
set_option linter.unusedVariables false
set_option linter.unusedSimpArgs false
open Go.RowKit Go.NP
namespace LBo
open TrX QVl TrE TrI TAs TPu TDr TNw TMe TPp TPr TAw TFi
open OpL (SlB bdl)
theorem cf13 (args : Array Value) (w1 : World) : (callFunc 13 args).run Try.prog w1 = .ok (.enter 13 args) w1 := enters Try.func13 (by kernel_rfl) (by kernel_rfl) args w1
theorem cf14 (args : Array Value) (w1 : World) : (callFunc 14 args).run Try.prog w1 = .ok (.enter 14 args) w1 := enters Try.func14 (by kernel_rfl) (by kernel_rfl) args w1
theorem meet_self {x : Bd} (h : x.ok) : meet x x = true := by
  have : x.ok ∧ x.ok ∧ (pmax x.lo x.lo).le (pmin x.hi x.hi) := by
    refine ⟨h, h, ?_⟩
    have := h.2.2
    unfold pmax pmin Pt.le at *
    simp only [Int.max_self, Int.min_self]
    exact this
  simpa [meet] using this
theorem meet_ok {x y : Bd} (h : meet x y = true) : x.ok ∧ y.ok := by
  have : x.ok ∧ y.ok ∧ (pmax x.lo y.lo).le (pmin x.hi y.hi) := by simpa [meet] using h
  exact ⟨this.1, this.2.1⟩
theorem has_meet {mg : Int} {l : List Bd} {x y : Bd} {k : Nat} (hy : l[k]? = some y) : (meetL (ents mg l 1) x).contains ((k : Int) + 1) = meet x y := by
  rw [Bool.eq_iff_iff, List.contains_iff_mem]
  unfold meetL tell
  rw [List.mem_map]
  constructor
  · rintro ⟨e, he, hn⟩
    obtain ⟨h1, h2⟩ := List.mem_filter.1 he
    obtain ⟨j, z, hz, _, rfl⟩ := ents_mem.1 h1
    have : j = k := by simp only at hn; omega
    subst this
    rw [hy] at hz; cases hz
    rw [meet_comm]; exact h2
  · intro h
    refine ⟨⟨1 + k, y, grow y mg⟩, List.mem_filter.2 ⟨ents_mem.2 ⟨k, y, hy, (meet_ok h).2, rfl⟩, (meet_comm y x).trans h⟩, by simp only; omega⟩
def cntP : List Bd → Nat
  | [] => 0
  | x :: r => (r.filter fun y => meet x y).length + cntP r
theorem cnt_ents {mg : Int} {x : Bd} : ∀ {l : List Bd} {i : Int}, ((ents mg l i).filter fun e => meet x e.b).length = (l.filter fun y => meet x y).length
  | [], i => rfl
  | y :: r, i => by
    rw [ents_cons, List.filter_append, List.length_append, cnt_ents, List.filter_cons]
    by_cases h : y.ok
    · rw [if_pos h]
      cases hm : meet x y with
      | true => simp [hm]; omega
      | false => simp [hm]
    · rw [if_neg h]
      cases hm : meet x y with
      | true => exact absurd (meet_ok hm).2 h
      | false => simp
theorem pairs_cnt {mg : Int} : ∀ {l : List Bd} {i : Int}, (pairsP (ents mg l i)).length = cntP l
  | [], i => rfl
  | x :: r, i => by
    by_cases h : x.ok
    · have e0 : ents mg (x :: r) i = ⟨i, x, grow x mg⟩ :: ents mg r (i + 1) := by rw [ents_cons, if_pos h]; rfl
      rw [e0]
      unfold pairsP
      rw [List.length_append, List.length_map, pairs_cnt, cnt_ents]
      rfl
    · have e0 : ents mg (x :: r) i = ents mg r (i + 1) := by rw [ents_cons, if_neg h]; rfl
      rw [e0, pairs_cnt]
      have : r.filter (fun y => meet x y) = [] := List.filter_eq_nil_iff.2 fun y _ hm => h (meet_ok hm).1
      show _ = (r.filter fun y => meet x y).length + cntP r
      rw [this]; simp
theorem drop_at {l : List Bd} {k : Nat} {x : Bd} (hx : l[k]? = some x) : l.drop k = x :: l.drop (k + 1) := by
  have hlt := OpL.get_len hx
  rw [List.drop_eq_getElem_cons hlt]
  rw [List.getElem?_eq_getElem hlt] at hx; cases hx; rfl
theorem take_at {l : List Bd} {k : Nat} {x : Bd} (hx : l[k]? = some x) : l.take (k + 1) = l.take k ++ [x] := by
  have hlt := OpL.get_len hx
  rw [List.take_succ_eq_append_getElem hlt]
  rw [List.getElem?_eq_getElem hlt] at hx; cases hx; rfl
/-- So many behind i, ahead of k, meet. -/
def cntK (l : List Bd) (x : Bd) (i k : Nat) : Nat := (((l.take k).drop (i + 1)).filter fun y => meet x y).length
theorem cntK_no {l : List Bd} {x : Bd} {i k : Nat} (h : k ≤ i + 1) : cntK l x i k = 0 := by
  unfold cntK
  rw [List.drop_eq_nil_of_le (by rw [List.length_take]; omega)]
  rfl
theorem cntK_next {l : List Bd} {x y : Bd} {i k : Nat} (h : i < k) (hy : l[k]? = some y) : cntK l x i (k + 1) = cntK l x i k + (if meet x y then 1 else 0) := by
  have hlt := OpL.get_len hy
  unfold cntK
  rw [take_at hy, List.drop_append_of_le_length (by rw [List.length_take]; omega), List.filter_append, List.length_append]
  cases hm : meet x y <;> simp [hm]
theorem cntK_end {l : List Bd} {x : Bd} {i n : Nat} (hn : l.length = n) (hx : l[i]? = some x) : cntK l x i n + cntP (l.drop (i + 1)) = cntP (l.drop i) := by
  rw [drop_at hx]
  unfold cntK
  rw [← hn, List.take_length]
  rfl
theorem cnt_skip {l : List Bd} {x : Bd} {i : Nat} (hx : l[i]? = some x) (h : ¬ x.ok) : cntP (l.drop (i + 1)) = cntP (l.drop i) := by
  rw [drop_at hx]
  have : (l.drop (i + 1)).filter (fun y => meet x y) = [] := List.filter_eq_nil_iff.2 fun y _ hm => h (meet_ok hm).1
  show _ = ((l.drop (i + 1)).filter fun y => meet x y).length + cntP (l.drop (i + 1))
  rw [this]; simp
set_option maxRecDepth 100000 in
set_option maxHeartbeats 8000000 in
theorem lawGo {mg : Int} {A : Option Addr} {n cap : Nat} {l : List Bd} (w : World) (hs : SlB w A n l) (hm : 0 ≤ mg ∧ mg ≤ 1048576) (hn : n ≤ 60) : RetB Try.prog 3 #[.int .i64 mg, .slice A n cap] w (.bool true) := by
  have HS := Lib.hid hs
  have hln := hs.1
  have t2 : decide ((60 : Int) < (n : Int)) = false := decide_eq_false (by omega)
  clear hs
  unfold RetB
  go_enter Try.func3, Try.ntmps3
  go_wp2_with fail
  refine (newC w hm).mono ?_
  rintro e w1 ⟨p0, S0, rfl, _, _, hb1⟩
  have HB1 := Lib.hid hb1
  have HS1 := Lib.hid (HS.out.step hb1)
  clear hb1
  go_wp2_with fail
  refine (filledC w1 hm HS1.out (by omega)).mono ?_
  rintro e w2 ⟨p, S2, rfl, h2, n2⟩
  have n2' : New w w2 S2 := ⟨HB1.out.trans (n2.bel.mono HB1.out.size), fun k hk => by have := n2.new k hk; have := HB1.out.size; omega⟩
  have hlen : (ents mg l 1).length ≤ 250 := by
    have : ∀ (l : List Bd) (i : Int), (ents mg l i).length ≤ l.length := by
      intro l
      induction l with
      | nil => intro i; exact Nat.le_refl _
      | cons x r ih =>
        intro i
        have := ih (i + 1)
        rw [ents_cons, List.length_append, List.length_cons]
        split <;> simp <;> omega
    have := this l 1; omega
  clear n2
  go_wp2_with fail
  go_loopw [7, 8] (fun pc i wr => ∃ (j q : Nat), i = .int .i64 (j : Int) ∧ pc = .int .i64 (q : Int) ∧ j ≤ n ∧ q + cntP (l.drop j) = cntP l ∧ q ≤ j * 100 ∧ TI wr p mg (ents mg l 1) S2 (4 * n) ∧ New w wr S2) (fun _ i _ => n - (RowKit.intOf i).toNat)
  case atStart => exact ⟨0, 0, rfl, rfl, Nat.zero_le _, by simp, Nat.zero_le _, h2, n2'⟩
  case round =>
    clear h2 n2'
    obtain ⟨j, q, rfl, rfl, hj, hq, hqs, hti, hnw⟩ := hrel
    have HTI := Lib.hid hti; have HN := Lib.hid hnw
    clear hti hnw
    by_cases hlt : j < n
    · have t1 : decide ((j : Int) < (n : Int)) = true := by simpa using hlt
      have v1 : IntKind.i64.wrap ((j : Int) + 1) = ((j + 1 : Nat) : Int) := by rw [IntKind.wrap_i64]; omega
      obtain ⟨x, hx⟩ : ∃ x, l[j]? = some x := ⟨_, List.getElem?_eq_getElem (by omega)⟩
      obtain ⟨b, off, rfl, hb, hat⟩ := HS.out.2 (by omega)
      have hat1 : At' wr b (off + j * 6) [.int .i64 x.lo.x, .int .i64 x.lo.y, .int .i64 x.lo.z, .int .i64 x.hi.x, .int .i64 x.hi.y, .int .i64 x.hi.z] := (hat j x hx).step hb HN.out.bel
      have HAL := Lib.hid hat
      have HX := Lib.hid hx
      have hbr : b < wr.heap.size := by have := HN.out.bel.size; omega
      have j0 : 0 ≤ (j : Int) ∧ (j : Int) < (n : Int) := by omega
      clear hat hx
      go_wp2_with (refine wpL_at (l := [.int .i64 x.lo.x, .int .i64 x.lo.y, .int .i64 x.lo.z, .int .i64 x.hi.x, .int .i64 x.hi.y, .int .i64 x.hi.z]) (by rfl) (by rfl) hat1 Try.underlying35 (by rfl) (by kernel_rfl) (by kernel_rfl) ?_; (conv => arg 5; simp only [Act.put, List.setIfInBounds_toArray, List.set_cons_zero, List.set_cons_succ]))
      refine (tmeetC (x := x) wr HTI.out (by omega)).mono ?_
      rintro e w3 ⟨⟨mv, rfl, hmv⟩, hb3⟩
      obtain ⟨lm, hlm⟩ : ∃ lm, meetL (ents mg l 1) x = lm := ⟨_, rfl⟩
      rw [hlm] at hmv
      have HLM := Lib.hid hlm
      have hlml : lm.length ≤ 100000 := by
        rw [← hlm]; unfold meetL tell
        rw [List.length_map]
        exact Nat.le_trans (List.length_filter_le _ _) (by omega)
      obtain ⟨A2, cap2, rfl, _, _, _⟩ := hmv.sl
      have elen : (iv lm).length = lm.length := iv_len lm
      rw [elen] at hmv ⊢
      have h3 := HTI.out.step hb3
      have n3 := HN.out.step hb3
      have hat3 := hat1.step hbr hb3
      have hbr3 : b < w3.heap.size := by have := hb3.size; omega
      have HMV := Lib.hid hmv; have H3 := Lib.hid h3; have N3 := Lib.hid n3
      clear hlm hmv h3 n3 hb3 HTI HN hat1
      by_cases hxo : x.ok
      · rw [errIf_pos hxo]
        go_wp2_with (refine wpL_at (l := [.int .i64 x.lo.x, .int .i64 x.lo.y, .int .i64 x.lo.z, .int .i64 x.hi.x, .int .i64 x.hi.y, .int .i64 x.hi.z]) (by rfl) (by rfl) hat3 Try.underlying35 (by rfl) (by kernel_rfl) (by kernel_rfl) ?_; (conv => arg 5; simp only [Act.put, List.setIfInBounds_toArray, List.set_cons_zero, List.set_cons_succ]))
        refine Calls.mono (bcheck_ok x w3 hxo) ?_
        rintro e w4 ⟨rfl, hb4⟩
        have HMV4 := Lib.hid (HMV.out.step hb4); have H4 := Lib.hid (H3.out.step hb4); have N4 := Lib.hid (N3.out.step hb4)
        clear HMV H3 N3 hat3 hb4
        go_wp2_with fail
        have hself := hasC (n := (j : Int) + 1) w4 HMV4.out hlml
        have hcs : lm.contains ((j : Int) + 1) = true := by rw [← HLM.out, has_meet HX.out, meet_self hxo]
        rw [hcs] at hself
        refine Calls.mono hself ?_
        clear hself
        rintro e w5 ⟨rfl, hb5⟩
        have HMV5 := Lib.hid (HMV4.out.step hb5); have H5 := Lib.hid (H4.out.step hb5); have N5 := Lib.hid (N4.out.step hb5)
        clear HMV4 H4 N4 hb5
        go_wp2_with fail
        go_loopw [7, 11] (fun pc i wx => ∃ (k qk : Nat), i = .int .i64 (k : Int) ∧ pc = .int .i64 (qk : Int) ∧ k ≤ n ∧ qk = q + cntK l x j k ∧ Below w5.heap.size w5 wx) (fun _ i _ => n - (RowKit.intOf i).toNat)
        case atStart => exact ⟨0, q, rfl, rfl, Nat.zero_le _, by rw [cntK_no (by omega)]; rfl, Below.refl _ _⟩
        case round =>
          obtain ⟨k, qk, rfl, rfl, hk, hqk, hSx⟩ := hrel
          have HSx := Lib.hid hSx
          by_cases hlk : k < n
          · have t3 : decide ((k : Int) < (n : Int)) = true := by simpa using hlk
            have v3 : IntKind.i64.wrap ((k : Int) + 1) = ((k + 1 : Nat) : Int) := by rw [IntKind.wrap_i64]; omega
            obtain ⟨y, hy⟩ : ∃ y, l[k]? = some y := ⟨_, List.getElem?_eq_getElem (by omega)⟩
            have hW := N5.out.bel.trans (hSx.mono N5.out.bel.size)
            have hatx := (HAL.out j x HX.out).step hb hW
            have haty := (HAL.out k y hy).step hb hW
            have hbw : b < wr.heap.size := by have := hW.size; omega
            have HBW := Lib.hid hbw
            have hmv := HMV5.out.step hSx
            obtain ⟨bv, hbv⟩ : ∃ bv, meet x y = bv := ⟨_, rfl⟩
            have HH := Lib.hid (fun (u : World) (hu : Below wr.heap.size wr u) => (show RetB Try.prog 13 #[.slice A2 lm.length cap2, .int .i64 (((k + 1 : Nat) : Int))] u (.bool bv) from by
              have := hasC (n := ((k + 1 : Nat) : Int)) u (hmv.step hu) hlml
              rw [← hbv, ← has_meet (mg := mg) hy, HLM.out]
              exact this))
            have HY := Lib.hid hy; have HBV := Lib.hid hbv
            have k0 : 0 ≤ (k : Int) ∧ (k : Int) < (n : Int) := by omega
            have HATX := Lib.hid (show At' wr b (off + j * 6) [.int .i64 x.lo.x, .int .i64 x.lo.y, .int .i64 x.lo.z, .int .i64 x.hi.x, .int .i64 x.hi.y, .int .i64 x.hi.z] from hatx); have HATY := Lib.hid (show At' wr b (off + k * 6) [.int .i64 y.lo.x, .int .i64 y.lo.y, .int .i64 y.lo.z, .int .i64 y.hi.x, .int .i64 y.hi.y, .int .i64 y.hi.z] from haty)
            have HWx := Lib.hid hW
            clear hmv hy hatx haty hSx hW hbv
            go_wp2_with fail
            refine wp_region_ph [(14, .free [])] (by kernel_rfl) (by kernel_rfl) ?_
            refine Ph.belowd ?_
            simp only [List.drop_succ_cons, List.drop_zero, List.take_succ_cons, List.take_zero, Nat.reduceSub, Nat.sub_zero]
            iterate 3 (refine SeqO.val (v := ?_) (by rfl) (by rfl) (fun w1 hS => ?_) ?_; rotate_left; (· obtain ⟨hc, hcf⟩ := bcell hS; go_simp; try with_reducible rfl); simp only [Act.put, List.setIfInBounds_toArray, List.set_cons_zero, List.set_cons_succ])
            refine SeqO.callv (by rfl) (by rfl) (by rfl) cf13 (by simp [Act.eval]) (fun w1 hS => HH.out w1 hS) ?_
            simp only [Act.put, List.setIfInBounds_toArray, List.set_cons_zero, List.set_cons_succ]
            iterate 3 (refine SeqO.val (v := ?_) (by rfl) (by rfl) (fun w1 hS => ?_) ?_; rotate_left; (· obtain ⟨hc, hcf⟩ := bcell hS; go_simp; try with_reducible rfl); simp only [Act.put, List.setIfInBounds_toArray, List.set_cons_zero, List.set_cons_succ])
            refine SeqO.at (l := [.int .i64 x.lo.x, .int .i64 x.lo.y, .int .i64 x.lo.z, .int .i64 x.hi.x, .int .i64 x.hi.y, .int .i64 x.hi.z]) (by rfl) (by rfl) HBW.out HATX.out Try.underlying35 (by rfl) (by kernel_rfl) (by rfl) (by rfl) ?_
            simp only [Act.put, List.setIfInBounds_toArray, List.set_cons_zero, List.set_cons_succ]
            iterate 3 (refine SeqO.val (v := ?_) (by rfl) (by rfl) (fun w1 hS => ?_) ?_; rotate_left; (· obtain ⟨hc, hcf⟩ := bcell hS; go_simp; try with_reducible rfl); simp only [Act.put, List.setIfInBounds_toArray, List.set_cons_zero, List.set_cons_succ])
            refine SeqO.at (l := [.int .i64 y.lo.x, .int .i64 y.lo.y, .int .i64 y.lo.z, .int .i64 y.hi.x, .int .i64 y.hi.y, .int .i64 y.hi.z]) (by rfl) (by rfl) HBW.out HATY.out Try.underlying35 (by rfl) (by kernel_rfl) (by rfl) (by rfl) ?_
            simp only [Act.put, List.setIfInBounds_toArray, List.set_cons_zero, List.set_cons_succ]
            refine SeqO.callv (by rfl) (by rfl) (by rfl) cf14 (by simp [Act.eval]) (fun w1 hS => HBV.out ▸ meetC x y w1) ?_
            simp only [Act.put, List.setIfInBounds_toArray, List.set_cons_zero, List.set_cons_succ]
            iterate 1 (refine SeqO.val (v := ?_) (by rfl) (by rfl) (fun w1 hS => ?_) ?_; rotate_left; (· obtain ⟨hc, hcf⟩ := bcell hS; go_simp; try with_reducible rfl); simp only [Act.put, List.setIfInBounds_toArray, List.set_cons_zero, List.set_cons_succ])
            refine SeqO.nil0 fun w8 hS8 => ?_
            refine Ph.last ?_
            simp only [List.drop_succ_cons, List.drop_zero, List.take_succ_cons, List.take_zero, Nat.reduceSub, Nat.sub_zero]
            refine wpList_nil ?_
            have hS9 := HSx.out.trans (hS8.mono HSx.out.size)
            have HH2 := Lib.hid (HH.out w8 hS8)
            clear HH HATX HATY hS8 HSx HWx HBW hbw
            by_cases hjk : j < k
            · have t4 : decide ((j : Int) < (k : Int)) = true := by simpa using hjk
              have hnx := cntK_next (x := x) hjk HY.out
              rw [HBV.out] at hnx
              go_wp2_with fail
              refine Calls.mono HH2.out ?_
              rintro e w9 ⟨rfl, hS10⟩
              have hS11 := hS9.trans (hS10.mono hS9.size)
              clear HH2 hS10
              have hcl : cntK l x j k ≤ 100 := by
                unfold cntK
                refine Nat.le_trans (List.length_filter_le _ _) ?_
                rw [List.length_drop, List.length_take]; omega
              cases bv with
              | true =>
                have v4 : IntKind.i64.wrap ((qk : Int) + 1) = ((qk + 1 : Nat) : Int) := by rw [IntKind.wrap_i64]; omega
                have hnx' : cntK l x j (k + 1) = cntK l x j k + 1 := by simpa using hnx
                go_wp2_with fail
                exact ⟨⟨k + 1, q + cntK l x j k + 1, rfl, rfl, by omega, by rw [hnx']; omega, hS11⟩, by simp [RowKit.intOf]; omega⟩
              | false =>
                have hnx' : cntK l x j (k + 1) = cntK l x j k := by simpa using hnx
                go_wp2_with fail
                exact ⟨⟨k + 1, q + cntK l x j k, rfl, rfl, by omega, by rw [hnx'], hS11⟩, by simp [RowKit.intOf]; omega⟩
            · have t4 : decide ((j : Int) < (k : Int)) = false := by simpa using hjk
              have hz : cntK l x j (k + 1) = 0 := cntK_no (by omega)
              have hz2 : cntK l x j k = 0 := cntK_no (by omega)
              go_wp2_with fail
              exact ⟨⟨k + 1, qk, rfl, rfl, by omega, by rw [hz]; rw [hz2] at hqk; exact hqk, hS9⟩, by simp [RowKit.intOf]; omega⟩
          · obtain rfl : k = n := by omega
            have t3 : decide ((k : Int) < (k : Int)) = false := by simp
            have hend := cntK_end hln HX.out
            have hcl : cntK l x j k ≤ 100 := by
              unfold cntK
              refine Nat.le_trans (List.length_filter_le _ _) ?_
              rw [List.length_drop, List.length_take]; omega
            have h9 := H5.out.step HSx.out; have n9 := N5.out.step HSx.out
            go_wp2_with fail
            exact ⟨⟨j + 1, qk, rfl, rfl, by omega, by omega, by rw [Nat.add_mul]; omega, h9, n9⟩, by simp [RowKit.intOf]; omega⟩
      · rw [errIf_neg hxo]
        have hnil : lm = [] := by rw [← HLM.out]; exact meetL_no hxo
        have hl0 : lm.length = 0 := by rw [hnil]; rfl
        rw [hl0]
        go_wp2_with (refine wpL_at (l := [.int .i64 x.lo.x, .int .i64 x.lo.y, .int .i64 x.lo.z, .int .i64 x.hi.x, .int .i64 x.hi.y, .int .i64 x.hi.z]) (by rfl) (by rfl) hat3 Try.underlying35 (by rfl) (by kernel_rfl) (by kernel_rfl) ?_; (conv => arg 5; simp only [Act.put, List.setIfInBounds_toArray, List.set_cons_zero, List.set_cons_succ]))
        refine Calls.mono (bcheck_no x w3 hxo) ?_
        rintro e w4 ⟨rfl, hb4⟩
        have h4 := H3.out.step hb4; have n4 := N3.out.step hb4
        clear HMV H3 N3 hat3 hb4
        go_wp2_with fail
        exact ⟨⟨j + 1, q, rfl, rfl, by omega, by rw [cnt_skip HX.out hxo]; exact hq, by omega, h4, n4⟩, by simp [RowKit.intOf]; omega⟩
    · obtain rfl : j = n := by omega
      have t1 : decide ((j : Int) < (j : Int)) = false := by simp
      have hqe : q = cntP l := by rw [← hln, List.drop_length] at hq; exact hq
      go_wp2_with fail
      refine (pairsC wr HTI.out (by omega) hlen).mono ?_
      rintro e w6 ⟨⟨pv, rfl, hpv⟩, hb6⟩
      obtain ⟨A3, cap3, rfl, _⟩ := hpv.sl
      rw [pairs_cnt, ← hqe]
      have u1 : ((q : Int) == (q : Int)) = true := by simp
      have n6 := HN.out.step hb6
      clear hpv hb6 HTI HN
      go_wp2_with fail
      refine Calls.mono (awakeC w6) ?_
      rintro e w7 ⟨rfl, hb7⟩
      have n7 := n6.step hb7
      go_wp2_with fail
      exact bodyPost_ret (v := .bool true) (by simp [results, Try.results3, go_sem]) rfl ⟨rfl, n7.bel⟩
set_option maxRecDepth 100000 in
set_option maxHeartbeats 4000000 in
theorem lawNo {mg : Int} {A : Option Addr} {n cap : Nat} (w : World) (hm : ¬ (0 ≤ mg ∧ mg ≤ 1048576)) : RetB Try.prog 3 #[.int .i64 mg, .slice A n cap] w (.bool true) := by
  unfold RetB
  go_enter Try.func3, Try.ntmps3
  go_wp2_with fail
  refine Calls.mono (newNo w hm) ?_
  rintro e w1 ⟨rfl, hb1⟩
  go_wp2_with fail
  refine Calls.mono (awakeC w1) ?_
  rintro e w7 ⟨rfl, hb7⟩
  go_wp2_with fail
  exact bodyPost_ret (v := .bool true) (by simp [results, Try.results3, go_sem]) rfl ⟨rfl, hb1.trans (hb7.mono hb1.size)⟩
set_option maxRecDepth 100000 in
set_option maxHeartbeats 4000000 in
theorem lawBig {mg : Int} {A : Option Addr} {n cap : Nat} (w : World) (hm : 0 ≤ mg ∧ mg ≤ 1048576) (hn : ¬ n ≤ 60) : RetB Try.prog 3 #[.int .i64 mg, .slice A n cap] w (.bool true) := by
  have t2 : decide ((60 : Int) < (n : Int)) = true := decide_eq_true (by omega)
  unfold RetB
  go_enter Try.func3, Try.ntmps3
  go_wp2_with fail
  refine (newC w hm).mono ?_
  rintro e w1 ⟨p0, S0, rfl, _, _, hb1⟩
  go_wp2_with fail
  refine Calls.mono (awakeC w1) ?_
  rintro e w7 ⟨rfl, hb7⟩
  go_wp2_with fail
  exact bodyPost_ret (v := .bool true) (by simp [results, Try.results3, go_sem]) rfl ⟨rfl, hb1.trans (hb7.mono hb1.size)⟩
theorem law {mg : Int} {A : Option Addr} {n : Nat} {l : List Bd} (cap : Nat) (w : World) (hs : SlB w A n l) : RetB Try.prog 3 #[.int .i64 mg, .slice A n cap] w (.bool true) := by
  by_cases hm : 0 ≤ mg ∧ mg ≤ 1048576
  · by_cases hn : n ≤ 60
    · exact lawGo w hs hm hn
    · exact lawBig w hm hn
  · exact lawNo w hm
end LBo
end Go.Proofs.Ytbcjnckejkjfeaa
namespace Go.Proofs.Ytbcjnckejkjfeaa
set_option linter.unusedVariables false
open Go.Joins Go.ChangeShapes Go.WideShapes Go.ChangeAt Go.RowKit Go.Deep Go.NP
set_option maxRecDepth 100000 in
theorem treeBothLifted (os : Os) (started : os.Started) (H : Type) (enc : TypeId × Value → H) :
    ReturnsInHanded {} Try.checked os 3 .any (Rows.treeBothSpec.pre6 enc Try.prog Try.f3 Rows.treeBothRow.domain false) (Rows.treeBothSpec.post enc Try.prog Try.f3 false true false false) := by
  refine returnsInHanded_of_change (C := Try.checked) own started (by kernel_rfl) Try.func3
    (ChangeSpec.witness6 (enc := enc) (C := Try.checked) false ⟨#[], #[.int .i64 0, .slice none 0 0], []⟩ 8 (by kernel_rfl) (by kernel_rfl) (by kernel_rfl) (by kernel_rfl)) ?_
  intro W base args ds gs before hval0 hW hcnd _
  have hval : ∀ (j : Nat) t v, Try.f3.params[j]? = some t → args[j]? = some v → Value.okWide Try.prog W .any base t v := hval0
  have hW' := hW
  obtain ⟨p, q, hA0, hV, rfl, hfz, hnd⟩ := hW
  have hA : DataW.TrodAll enc Try.prog W 0 (fun _ => true) true Try.f3.params.toList args.toList ds p := hA0
  rw [Try.params3] at hA hval
  obtain ⟨v0, vs0, d0, ds0, p0, q0, hargs, rfl, rfl, h0, r0⟩ := trodAll_cons hA
  obtain ⟨v1, vs1, d1, ds1, p1, q1, rfl, rfl, rfl, h1, r1⟩ := trodAll_cons r0
  obtain ⟨rfl, rfl, rfl⟩ := trodAll_nil r1
  obtain rfl : args = #[v0, v1] := by cases args; simp_all
  obtain ⟨rfl, rfl⟩ := trodVars_none hV
  have k1 := h1
  have lt1 : ∀ x ∈ p1, x.block < W.heap.size := by obtain ⟨m, hm⟩ := k1; exact DataW.trod_lt m _ _ _ hm
  obtain ⟨a0, rfl, rfl, rfl, w0⟩ := open_int Try.underlying2 (hval 0 2 v0 rfl rfl) h0
  obtain ⟨A1, n1, c1, a1, rfl, hs1⟩ := OpL.open_bds (hval 1 22 v1 rfl rfl) h1
  clear hA0 hval0
  refine Calls.mono (LBo.law c1 W hs1) fun e W' ⟨he, bel⟩ => ?_
  subst he
  exact ⟨_, rfl, _, _, _, [], _, [], hW', trodAll_mk1 (shut_bool Try.underlying4 _), (trodAll_cons_mk (shut_int Try.underlying2 w0) (trodAll_cons_mk (Below.trod laidOut (by kernel_rfl) (of_decide_eq_true (by kernel_rfl)) k1 bel lt1) trodAll_mk0)), rfl, bel.frame _, fun h => by cases h⟩
theorem treeBoth_holds : Rows.TreeBothSaid :=
  OpenClaim.holds_of_wide 3 Try.f3 rfl rfl rfl rfl rfl rfl rfl ⟨rfl, rfl, rfl, rfl, rfl⟩ rfl rfl rfl rfl rfl (by kernel_rfl) Try.func3 (by kernel_rfl)
    (of_decide_eq_true (by kernel_rfl)) (by unfold Func.isWrapper; first | (rw [if_pos (by decide +kernel)]; kernel_rfl) | (rw [if_neg (by decide +kernel)]; exact ⟨rfl, rfl⟩))
    (fun os started H enc _ => treeBothLifted os started H enc)
end Go.Proofs.Ytbcjnckejkjfeaa
