/- A tree whose bounds are all dropped: the law's walk. Condition: the arguments are as told. A tree whose bounds are all dropped is as one without any. No condition. -/
import Derived.Test.YtbcjnckejkjfeaaQTb
namespace Go.Proofs.Ytbcjnckejkjfeaa
set_option linter.unusedVariables false
set_option linter.unusedSimpArgs false
open Go.RowKit Go.NP
namespace LEm
open TrX QVl TrE TrI TAs TPu TDr TNw TMe TPp TPr TAw TFi
open OpL (SlB bdl)
theorem lo_ge {L : List En} {n : Int} (h : ∀ a ∈ L, n ≤ a.n) : lo L n = [] ∧ hi L n = L := by
  have h1 : lo L n = [] := by
    cases L with
    | nil => rfl
    | cons a r =>
      have := h a (List.mem_cons_self ..)
      have hx : ¬ a.n < n := by omega
      unfold lo
      simp [List.takeWhile_cons, hx]
  refine ⟨h1, ?_⟩
  have := lo_hi L n
  rw [h1, List.nil_append] at this; exact this
theorem drop_front {mg i : Int} {l : List Bd} {x : Bd} (hi : 1 ≤ i ∧ i ≤ 4096) : dropE (ents mg (x :: l) i) i = (if x.ok then 0 else 4) ∧ dropL (ents mg (x :: l) i) i = ents mg l (i + 1) := by
  have hgt : ∀ a ∈ ents mg l (i + 1), i < a.n := fun a ha => by have := (ents_range ha).1; omega
  by_cases h : x.ok
  · have e0 : ents mg (x :: l) i = ⟨i, x, grow x mg⟩ :: ents mg l (i + 1) := by rw [ents_cons, if_pos h]; rfl
    have h1 : isIn (ents mg (x :: l) i) i = true := isIn_iff.2 ⟨⟨i, x, grow x mg⟩, by rw [e0]; exact List.mem_cons_self .., rfl⟩
    have h2 : dropE (ents mg (x :: l) i) i = 0 := by unfold dropE; rw [if_pos hi, if_pos h1]
    refine ⟨by rw [if_pos h]; exact h2, ?_⟩
    unfold dropL
    rw [if_pos h2]
    unfold del
    have hge : ∀ a ∈ ents mg (x :: l) i, i ≤ a.n := fun a ha => (ents_range ha).1
    rw [(lo_ge hge).1, (lo_ge hge).2, e0]
    rfl
  · have e0 : ents mg (x :: l) i = ents mg l (i + 1) := by rw [ents_cons, if_neg h]; rfl
    have h1 : isIn (ents mg (x :: l) i) i = false := not_in.2 fun e he => by rw [e0] at he; have := hgt e he; omega
    have h2 : dropE (ents mg (x :: l) i) i = 4 := by unfold dropE; rw [if_pos hi, h1]; rfl
    refine ⟨by rw [if_neg h]; exact h2, ?_⟩
    unfold dropL
    rw [if_neg (by rw [h2]; decide), e0]
def big : Bd := ⟨⟨-268435456, -268435456, -268435456⟩, ⟨268435456, 268435456, 268435456⟩⟩
set_option maxRecDepth 100000 in
set_option maxHeartbeats 8000000 in
theorem lawGo {mg : Int} {A : Option Addr} {n cap : Nat} {l : List Bd} (w : World) (hs : SlB w A n l) (hm : 0 ≤ mg ∧ mg ≤ 1048576) (hn : n ≤ 40) : RetB Try.prog 4 #[.int .i64 mg, .slice A n cap] w (.bool true) := by
  have HS := Lib.hid hs
  have hln := hs.1
  have t2 : decide ((40 : Int) < (n : Int)) = false := decide_eq_false (by omega)
  clear hs
  unfold RetB
  go_enter Try.func4, Try.ntmps4
  go_wp2_with fail
  refine (newC w hm).mono ?_
  rintro e w1 ⟨p0, S0, rfl, _, _, hb1⟩
  have HB1 := Lib.hid hb1
  have HS1 := Lib.hid (HS.out.step hb1)
  clear hb1
  go_wp2_with fail
  refine (filledC w1 hm HS1.out (by omega)).mono ?_
  rintro e w2 ⟨p, S2, rfl, h2, n2⟩
  have n2' : New w w2 S2 := ⟨HB1.out.trans (n2.bel.mono HB1.out.size), fun k hk => by have := n2.new k hk; have := HB1.out.size; omega⟩
  clear n2
  go_wp2_with fail
  go_loopw [7] (fun i wr => ∃ (k : Nat) (S : Nat → Prop), i = .int .i64 (k : Int) ∧ k ≤ n ∧ TI wr p mg (ents mg (l.drop k) ((k : Int) + 1)) S (4 * n + 4 * k) ∧ New w wr S) (fun i _ => n - (RowKit.intOf i).toNat)
  case atStart => exact ⟨0, S2, rfl, Nat.zero_le _, h2, n2'⟩
  case round =>
    clear h2 n2'
    obtain ⟨k, S, rfl, hk, hti, hnw⟩ := hrel
    have HTI := Lib.hid hti; have HN := Lib.hid hnw
    clear hti hnw
    by_cases hlt : k < n
    · have t1 : decide ((k : Int) < (n : Int)) = true := by simpa using hlt
      have v1 : IntKind.i64.wrap ((k : Int) + 1) = ((k + 1 : Nat) : Int) := by rw [IntKind.wrap_i64]; omega
      obtain ⟨x, hx⟩ : ∃ x, l[k]? = some x := ⟨_, List.getElem?_eq_getElem (by omega)⟩
      obtain ⟨b, off, rfl, hb, hat⟩ := HS.out.2 (by omega)
      have hat1 : At' wr b (off + k * 6) [.int .i64 x.lo.x, .int .i64 x.lo.y, .int .i64 x.lo.z, .int .i64 x.hi.x, .int .i64 x.hi.y, .int .i64 x.hi.z] := (hat k x hx).step hb HN.out.bel
      have HAT := Lib.hid hat1
      have hbr : b < wr.heap.size := by have := HN.out.bel.size; omega
      have hd : l.drop k = x :: l.drop (k + 1) := by
        have hlt := OpL.get_len hx
        rw [List.drop_eq_getElem_cons hlt]
        rw [List.getElem?_eq_getElem hlt] at hx; cases hx; rfl
      have hfr := drop_front (mg := mg) (i := (k : Int) + 1) (l := l.drop (k + 1)) (x := x) (by omega)
      rw [← hd] at hfr
      have HFR := Lib.hid hfr
      have k0 : 0 ≤ (k : Int) ∧ (k : Int) < (n : Int) := by omega
      clear hfr hd hx hat hat1
      go_wp2_with fail
      refine (dropC (n := (k : Int) + 1) wr HTI.out (by omega)).mono ?_
      rintro e w3 ⟨rfl, S3, h3, a3⟩
      rw [HFR.out.2] at h3
      rw [HFR.out.1]
      have h4 := h3.mono (show 4 * n + 4 * k + 4 ≤ 4 * n + 4 * (k + 1) by omega)
      have n3 := HN.out.aft a3
      have hat3 : At' w3 b (off + k * 6) [.int .i64 x.lo.x, .int .i64 x.lo.y, .int .i64 x.lo.z, .int .i64 x.hi.x, .int .i64 x.hi.y, .int .i64 x.hi.z] := fun j v hv => by
        rw [World.cell?_of_block (a3.fr.block b hbr fun q => by have := HN.out.new b q; omega)]
        exact HAT.out j v hv
      clear h3 a3 HTI HN HAT hbr HFR
      by_cases hxo : x.ok
      · rw [if_pos hxo]
        go_wp2_with (refine wpL_at (l := [.int .i64 x.lo.x, .int .i64 x.lo.y, .int .i64 x.lo.z, .int .i64 x.hi.x, .int .i64 x.hi.y, .int .i64 x.hi.z]) (by rfl) (by rfl) hat3 Try.underlying35 (by rfl) (by kernel_rfl) (by kernel_rfl) ?_; (conv => arg 5; simp only [Act.put, List.setIfInBounds_toArray, List.set_cons_zero, List.set_cons_succ]))
        refine Calls.mono (bcheck_ok x w3 hxo) ?_
        rintro e w4 ⟨rfl, hS4⟩
        have h5 := h4.step hS4
        have n5 := n3.step hS4
        clear h4 n3 hS4 hat3
        go_wp2_with fail
        exact ⟨⟨k + 1, S3, rfl, by omega, h5, n5⟩, by simp [RowKit.intOf]; omega⟩
      · rw [if_neg hxo]
        go_wp2_with (refine wpL_at (l := [.int .i64 x.lo.x, .int .i64 x.lo.y, .int .i64 x.lo.z, .int .i64 x.hi.x, .int .i64 x.hi.y, .int .i64 x.hi.z]) (by rfl) (by rfl) hat3 Try.underlying35 (by rfl) (by kernel_rfl) (by kernel_rfl) ?_; (conv => arg 5; simp only [Act.put, List.setIfInBounds_toArray, List.set_cons_zero, List.set_cons_succ]))
        refine Calls.mono (bcheck_no x w3 hxo) ?_
        rintro e w4 ⟨rfl, hS4⟩
        have h5 := h4.step hS4
        have n5 := n3.step hS4
        clear h4 n3 hS4 hat3
        go_wp2_with fail
        exact ⟨⟨k + 1, S3, rfl, by omega, h5, n5⟩, by simp [RowKit.intOf]; omega⟩
    · obtain rfl : k = n := by omega
      have t1 : decide ((k : Int) < (k : Int)) = false := by simp
      have hti := HTI.out
      have hnil : ents mg (l.drop k) ((k : Int) + 1) = [] := by rw [← hln, List.drop_length]; rfl
      rw [hnil] at hti
      have HT2 := Lib.hid hti
      clear hti HTI
      go_wp2_with fail
      refine (tmeetC (x := big) wr HT2.out (by omega)).mono ?_
      rintro e w3 ⟨⟨mv, rfl, hmv⟩, hb3⟩
      have em : meetL [] big = [] := rfl
      have eo : errIf big.ok = 0 := by decide
      rw [em] at hmv
      rw [eo]
      obtain ⟨A2, cap2, rfl, _, _, _⟩ := hmv.sl
      have e0 : (iv []).length = 0 := rfl
      rw [e0]
      have h3 := HT2.out.step hb3
      have n3 := HN.out.step hb3
      clear hmv hb3 HT2 HN
      go_wp2_with fail
      refine Calls.mono (lenC w3 h3) ?_
      rintro e w4 ⟨rfl, hb4⟩
      have h4 := h3.step hb4
      have n4 := n3.step hb4
      clear h3 n3 hb4
      go_wp2_with fail
      refine (heightC w4 h4).mono ?_
      rintro e w5 ⟨hh, rfl, hok, hb5⟩
      have hh0 : hh = 0 := hok.2.1 (by simp)
      subst hh0
      have h5 := h4.step hb5
      have n5 := n4.step hb5
      clear h4 n4 hb5 hok
      go_wp2_with fail
      refine (pairsC w5 h5 (by omega) (by simp)).mono ?_
      rintro e w6 ⟨⟨pv, rfl, hpv⟩, hb6⟩
      obtain ⟨A3, cap3, rfl, _⟩ := hpv.sl
      have e3 : (pairsP []).length = 0 := rfl
      rw [e3]
      have n6 := n5.step hb6
      clear hpv hb6 h5 n5
      go_wp2_with fail
      refine Calls.mono (awakeC w6) ?_
      rintro e w7 ⟨rfl, hb7⟩
      have n7 := n6.step hb7
      go_wp2_with fail
      exact bodyPost_ret (v := .bool true) (by simp [results, Try.results4, go_sem]) rfl ⟨rfl, n7.bel⟩
set_option maxRecDepth 100000 in
set_option maxHeartbeats 4000000 in
theorem lawNo {mg : Int} {A : Option Addr} {n cap : Nat} (w : World) (hm : ¬ (0 ≤ mg ∧ mg ≤ 1048576)) : RetB Try.prog 4 #[.int .i64 mg, .slice A n cap] w (.bool true) := by
  unfold RetB
  go_enter Try.func4, Try.ntmps4
  go_wp2_with fail
  refine Calls.mono (newNo w hm) ?_
  rintro e w1 ⟨rfl, hb1⟩
  go_wp2_with fail
  refine Calls.mono (awakeC w1) ?_
  rintro e w7 ⟨rfl, hb7⟩
  go_wp2_with fail
  exact bodyPost_ret (v := .bool true) (by simp [results, Try.results4, go_sem]) rfl ⟨rfl, hb1.trans (hb7.mono hb1.size)⟩
set_option maxRecDepth 100000 in
set_option maxHeartbeats 4000000 in
theorem lawBig {mg : Int} {A : Option Addr} {n cap : Nat} (w : World) (hm : 0 ≤ mg ∧ mg ≤ 1048576) (hn : ¬ n ≤ 40) : RetB Try.prog 4 #[.int .i64 mg, .slice A n cap] w (.bool true) := by
  have t2 : decide ((40 : Int) < (n : Int)) = true := decide_eq_true (by omega)
  unfold RetB
  go_enter Try.func4, Try.ntmps4
  go_wp2_with fail
  refine (newC w hm).mono ?_
  rintro e w1 ⟨p0, S0, rfl, _, _, hb1⟩
  go_wp2_with fail
  refine Calls.mono (awakeC w1) ?_
  rintro e w7 ⟨rfl, hb7⟩
  go_wp2_with fail
  exact bodyPost_ret (v := .bool true) (by simp [results, Try.results4, go_sem]) rfl ⟨rfl, hb1.trans (hb7.mono hb1.size)⟩
theorem law {mg : Int} {A : Option Addr} {n : Nat} {l : List Bd} (cap : Nat) (w : World) (hs : SlB w A n l) : RetB Try.prog 4 #[.int .i64 mg, .slice A n cap] w (.bool true) := by
  by_cases hm : 0 ≤ mg ∧ mg ≤ 1048576
  · by_cases hn : n ≤ 40
    · exact lawGo w hs hm hn
    · exact lawBig w hm hn
  · exact lawNo w hm
end LEm
end Go.Proofs.Ytbcjnckejkjfeaa
namespace Go.Proofs.Ytbcjnckejkjfeaa
set_option linter.unusedVariables false
open Go.Joins Go.ChangeShapes Go.WideShapes Go.ChangeAt Go.RowKit Go.Deep Go.NP
set_option maxRecDepth 100000 in
theorem treeEmptyLifted (os : Os) (started : os.Started) (H : Type) (enc : TypeId × Value → H) :
    ReturnsInHanded {} Try.checked os 4 .any (Rows.treeEmptySpec.pre6 enc Try.prog Try.f4 Rows.treeEmptyRow.domain false) (Rows.treeEmptySpec.post enc Try.prog Try.f4 false true false false) := by
  refine returnsInHanded_of_change (C := Try.checked) own started (by kernel_rfl) Try.func4
    (ChangeSpec.witness6 (enc := enc) (C := Try.checked) false ⟨#[], #[.int .i64 0, .slice none 0 0], []⟩ 8 (by kernel_rfl) (by kernel_rfl) (by kernel_rfl) (by kernel_rfl)) ?_
  intro W base args ds gs before hval0 hW hcnd _
  have hval : ∀ (j : Nat) t v, Try.f4.params[j]? = some t → args[j]? = some v → Value.okWide Try.prog W .any base t v := hval0
  have hW' := hW
  obtain ⟨p, q, hA0, hV, rfl, hfz, hnd⟩ := hW
  have hA : DataW.TrodAll enc Try.prog W 0 (fun _ => true) true Try.f4.params.toList args.toList ds p := hA0
  rw [Try.params4] at hA hval
  obtain ⟨v0, vs0, d0, ds0, p0, q0, hargs, rfl, rfl, h0, r0⟩ := trodAll_cons hA
  obtain ⟨v1, vs1, d1, ds1, p1, q1, rfl, rfl, rfl, h1, r1⟩ := trodAll_cons r0
  obtain ⟨rfl, rfl, rfl⟩ := trodAll_nil r1
  obtain rfl : args = #[v0, v1] := by cases args; simp_all
  obtain ⟨rfl, rfl⟩ := trodVars_none hV
  have k1 := h1
  have lt1 : ∀ x ∈ p1, x.block < W.heap.size := by obtain ⟨m, hm⟩ := k1; exact DataW.trod_lt m _ _ _ hm
  obtain ⟨a0, rfl, rfl, rfl, w0⟩ := open_int Try.underlying2 (hval 0 2 v0 rfl rfl) h0
  obtain ⟨A1, n1, c1, a1, rfl, hs1⟩ := OpL.open_bds (hval 1 22 v1 rfl rfl) h1
  clear hA0 hval0
  refine Calls.mono (LEm.law c1 W hs1) fun e W' ⟨he, bel⟩ => ?_
  subst he
  exact ⟨_, rfl, _, _, _, [], _, [], hW', trodAll_mk1 (shut_bool Try.underlying4 _), (trodAll_cons_mk (shut_int Try.underlying2 w0) (trodAll_cons_mk (Below.trod laidOut (by kernel_rfl) (of_decide_eq_true (by kernel_rfl)) k1 bel lt1) trodAll_mk0)), rfl, bel.frame _, fun h => by cases h⟩
theorem treeEmpty_holds : Rows.TreeEmptySaid :=
  OpenClaim.holds_of_wide 4 Try.f4 rfl rfl rfl rfl rfl rfl rfl ⟨rfl, rfl, rfl, rfl, rfl⟩ rfl rfl rfl rfl rfl (by kernel_rfl) Try.func4 (by kernel_rfl)
    (of_decide_eq_true (by kernel_rfl)) (by unfold Func.isWrapper; first | (rw [if_pos (by decide +kernel)]; kernel_rfl) | (rw [if_neg (by decide +kernel)]; exact ⟨rfl, rfl⟩))
    (fun os started H enc _ => treeEmptyLifted os started H enc)
end Go.Proofs.Ytbcjnckejkjfeaa
