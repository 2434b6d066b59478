/- A tree of any margin, under any script of calls, answers as the document says, tells its pairs, and is no higher than it may be. No condition. -/
import Derived.Test.YtbcjnckejkjfeaaGreatQba
import Derived.Test.YtbcjnckejkjfeaaGreatQbb
import Derived.Test.YtbcjnckejkjfeaaGreatQac
import Derived.Test.YtbcjnckejkjfeaaGreatQae
namespace Go.Proofs.YtbcjnckejkjfeaaGreat
set_option linter.unusedVariables false
set_option linter.unusedSimpArgs false
open Go.RowKit Go.NP
namespace LPy
open TPr TrA TrX TrE TrI TPu TDr TSt TNw TPp TAw DPl DTr DPy DHt DDg OpO
theorem cf7 (args : Array Value) (w1 : World) : (callFunc 7 args).run Tryz.prog w1 = .ok (.enter 7 args) w1 := enters Tryz.func7 (by kernel_rfl) (by kernel_rfl) args w1
theorem cf4 (args : Array Value) (w1 : World) : (callFunc 4 args).run Tryz.prog w1 = .ok (.enter 4 args) w1 := enters Tryz.func4 (by kernel_rfl) (by kernel_rfl) args w1
theorem cf10 (args : Array Value) (w1 : World) : (callFunc 10 args).run Tryz.prog w1 = .ok (.enter 10 args) w1 := enters Tryz.func10 (by kernel_rfl) (by kernel_rfl) args w1
theorem cf9 (args : Array Value) (w1 : World) : (callFunc 9 args).run Tryz.prog w1 = .ok (.enter 9 args) w1 := enters Tryz.func9 (by kernel_rfl) (by kernel_rfl) args w1
theorem cf8 (args : Array Value) (w1 : World) : (callFunc 8 args).run Tryz.prog w1 = .ok (.enter 8 args) w1 := enters Tryz.func8 (by kernel_rfl) (by kernel_rfl) args w1
theorem cf12 (args : Array Value) (w1 : World) : (callFunc 12 args).run Tryz.prog w1 = .ok (.enter 12 args) w1 := enters Tryz.func12 (by kernel_rfl) (by kernel_rfl) args w1
theorem cf13 (args : Array Value) (w1 : World) : (callFunc 13 args).run Tryz.prog w1 = .ok (.enter 13 args) w1 := enters Tryz.func13 (by kernel_rfl) (by kernel_rfl) args w1
theorem cf11 (args : Array Value) (w1 : World) : (callFunc 11 args).run Tryz.prog w1 = .ok (.enter 11 args) w1 := enters Tryz.func11 (by kernel_rfl) (by kernel_rfl) args w1
theorem ins_len (L : List En) (e : En) : (ins L e).length = L.length + 1 := by
  have := congrArg List.length (lo_hi L e.n)
  unfold ins
  simp only [List.length_append, List.length_cons] at this ⊢
  omega
theorem del_len (L : List En) (n : Int) : (del L n).length ≤ L.length := by
  have := congrArg List.length (lo_hi L n)
  unfold del
  simp only [List.length_append, List.length_drop] at this ⊢
  omega
theorem upd_len (L : List En) (e : En) : (TrE.upd L e).length ≤ L.length + 1 := by
  have := congrArg List.length (lo_hi L e.n)
  unfold TrE.upd
  simp only [List.length_append, List.length_cons, List.length_drop] at this ⊢
  omega
/-- What is in the list behind a call. -/
def stepL (mg : Int) (L : List En) (o : Oc) : List En := if o.d = 1 then putL mg L o.q o.x else if o.d = 2 then dropL L o.q else if o.d = 3 then setL mg L o.q o.x else L
theorem step_len (mg : Int) (L : List En) (o : Oc) : (stepL mg L o).length ≤ L.length + 1 := by
  unfold stepL
  split
  · unfold putL; split
    · rw [ins_len]; exact Nat.le_refl _
    · omega
  · split
    · unfold dropL; split
      · have := del_len L o.q; omega
      · omega
    · split
      · unfold setL; split
        · exact upd_len _ _
        · omega
      · omega
theorem aft_below {w w' : World} {t : Nat} {S : Nat → Prop} (h : Below w.heap.size w w') : Aft3 w w' t S S := ⟨Fr.of_below h, fun k hk => .inl hk⟩
theorem psMono {w : World} {p t : Nat} {mg : Int} {L1 L2 : List En} {S : Nat → Prop} {K K' : Nat} (h : PS w p t mg L1 L2 S K) (hK : K ≤ K') : PS w p t mg L1 L2 S K' := ⟨h.ti.mono hK, h.dt, h.nt⟩
theorem playC {p t K : Nat} {mg : Int} {o : Oc} {L : List En} {S : Nat → Prop} (w : World) (h : PS w p t mg L L S K) (hK : K < 80000) (hl : L.length ≤ 1000) (hq : QVm.wfI o.q) :
    Calls Tryz.prog 7 #[.pointer (some ⟨p, 0, none⟩), .pointer (some ⟨t, 0, none⟩), .agg (ocl o).toArray] w fun e w' => e = .returned (.bool true) ∧ ∃ S', PS w' p t mg (stepL mg L o) (stepL mg L o) S' (K + 4) ∧ Aft3 w w' t S S' := by
  obtain ⟨d, q, x⟩ := o
  have stay : ∀ (e : Ending) (w' : World), (e = .returned (.bool true) ∧ Below w.heap.size w w') → stepL mg L ⟨d, q, x⟩ = L → e = .returned (.bool true) ∧ ∃ S', PS w' p t mg (stepL mg L ⟨d, q, x⟩) (stepL mg L ⟨d, q, x⟩) S' (K + 4) ∧ Aft3 w w' t S S' := fun e w' hb hs => by
    rw [hs]; exact ⟨hb.1, S, psMono (h.step hb.2) (by omega), aft_below hb.2⟩
  by_cases e1 : d = 1
  · subst e1; exact playPut w h hK hl
  by_cases e2 : d = 2
  · subst e2; exact playDrop w h hK hl
  by_cases e3 : d = 3
  · subst e3; exact playSet w h hK hl
  have es : stepL mg L ⟨d, q, x⟩ = L := by unfold stepL; rw [if_neg e1, if_neg e2, if_neg e3]
  by_cases e4 : d = 4
  · subst e4; exact Calls.mono (playMeet w h hK hl) fun e w' hb => stay e w' hb es
  by_cases e5 : d = 5
  · subst e5; exact Calls.mono (playWay w h hK hl) fun e w' hb => stay e w' hb es
  by_cases e6 : d = 6
  · subst e6; exact Calls.mono (DPb.playBound w h.ti h.dt hl hq) fun e w' hb => stay e w' hb es
  exact Calls.mono (playElse (d := d) w (by omega)) fun e w' hb => stay e w' hb es
/-- The law's loop: how many calls are done. -/
structure RQ (w0 w : World) (p t : Nat) (mg : Int) (j : Nat) (L : List En) (S : Nat → Prop) : Prop where
  ps : PS w p t mg L L S (4 * j)
  ll : L.length ≤ j
  bel : Below w0.heap.size w0 w
  new : ∀ k, S k → w0.heap.size ≤ k
  nt : w0.heap.size ≤ t
theorem RQ.step {w0 w w' : World} {p t j : Nat} {mg : Int} {L : List En} {S : Nat → Prop} (h : RQ w0 w p t mg j L S) (hS : Below w.heap.size w w') : RQ w0 w' p t mg j L S :=
  ⟨h.ps.step hS, h.ll, h.bel.trans (hS.mono h.bel.size), h.new, h.nt⟩
theorem RQ.next {w0 w w' : World} {p t j : Nat} {mg : Int} {L L' : List En} {S S' : Nat → Prop} (h : RQ w0 w p t mg j L S) (hP : PS w' p t mg L' L' S' (4 * j + 4)) (hl : L'.length ≤ L.length + 1) (hA : Aft3 w w' t S S') : RQ w0 w' p t mg (j + 1) L' S' :=
  ⟨psMono hP (by omega), by have := h.ll; omega, hA.fr.below (fun k hk => hk.elim (h.new k) fun e => e ▸ h.nt) h.bel h.bel.size, fun k hk => (hA.new k hk).elim (h.new k) fun q => by have := h.bel.size; omega, h.nt⟩
/-- One's own slice of pairs, and nothing else. -/
def ownK (base : Nat) (l : List Pr) : Keep where
  p v w := OwnS w base v l
  st v w w' h hb := h.step hb
theorem ownRet {f : FuncId} {args : Array Value} {w : World} {base : Nat} {l : List Pr} (hb : base ≤ w.heap.size) (h : Calls Tryz.prog f args w fun e w' => (∃ v, e = .returned v ∧ OwnS w' w.heap.size v l) ∧ Below w.heap.size w w') : RetK Tryz.prog f args w (ownK base l) :=
  Calls.mono h fun e w' ⟨⟨v, he, hv⟩, hS⟩ => ⟨v, he, hv.mono hb, hS⟩
set_option maxRecDepth 100000 in
set_option maxHeartbeats 8000000 in
theorem lawGo {A : Option Addr} {n cap : Nat} {l : List Oc} {mg : Int} (w : World) (hs : SlO w A n l) (hq : ∀ x ∈ l, QVm.wfI x.q) : RetB Tryz.prog 3 #[.int .i64 mg, .slice A n cap] w (.bool true) := by
  have HS := Lib.hid hs; have HQ := Lib.hid hq
  have hln := hs.1
  clear hs hq
  unfold RetB
  by_cases hn : 200 < n
  · have t1 : decide ((200 : Int) < (n : Int)) = true := decide_eq_true (by omega)
    go_enter Tryz.func3, Tryz.ntmps3
    go_wp2_with fail
    refine Calls.mono (awakeC _) ?_
    rintro e w2 ⟨rfl, hb2⟩
    go_wp2_with fail
    exact bodyPost_ret (v := .bool true) (by simp [results, Tryz.results3, go_sem]) rfl ⟨rfl, hb2⟩
  have t1 : decide ((200 : Int) < (n : Int)) = false := decide_eq_false (by omega)
  by_cases hm : 0 ≤ mg ∧ mg ≤ 1048576
  · go_enter Tryz.func3, Tryz.ntmps3
    go_wp2_with fail
    refine Calls.mono (newC _ hm) ?_
    rintro e w2 ⟨p, S, rfl, hti, hnew, hb2⟩
    have HTI := Lib.hid hti; have HNEW := Lib.hid hnew; have HB2 := Lib.hid hb2
    clear hti hnew hb2
    go_wp2_with fail
    refine Calls.mono (DNe.rnewC mg w2 hm) ?_
    rintro e w3 ⟨rfl, hb3⟩
    have HB3 := Lib.hid hb3
    clear hb3
    go_wp2_with (refine wpL_store (cs := [.int .i64 mg, .slice none 0 0]) (by rfl) (by rfl) (by rfl) (Box.new (l := [.int .i64 0, .slice none 0 0]) rfl) (by kernel_rfl) (by rfl) (by simp [Value.oneCell']) (by kernel_rfl) ?_; (conv => arg 5; simp only [Act.put, List.setIfInBounds_toArray, List.set_cons_zero, List.set_cons_succ]))
    have R0 : RQ w ((w3.alloc (.cells [.int .i64 0, .slice none 0 0].toArray 30)).setRow w3.heap.size [.int .i64 mg, .slice none 0 0].toArray) p w3.heap.size mg 0 [] S := by
      have hbA : Below w3.heap.size w3 (w3.alloc (.cells [.int .i64 0, .slice none 0 0].toArray 30)) := (Below.refl _ _).alloc (Nat.le_refl _) _
      have hbR := below_row hbA (Nat.le_refl _) [.int .i64 mg, .slice none 0 0].toArray
      have hbx : Box (w3.alloc (.cells [.int .i64 0, .slice none 0 0].toArray 30)) w3.heap.size [.int .i64 0, .slice none 0 0] 30 := Box.new rfl
      have hbx := hbx.row [.int .i64 mg, .slice none 0 0]
      have b3 := HB3.out; have b2 := HB2.out
      exact ⟨⟨(HTI.out.step b3).step hbR, ⟨none, 0, ⟨hbx, ⟨rfl, fun h => absurd h (by simp)⟩, fun _ => rfl, Nat.le_refl _, fun a e => by cases e⟩, fun a e => by cases e⟩, fun hs => by have := HTI.out.lt _ hs; have := b3.size; omega⟩, Nat.le_refl _, (b2.trans (b3.mono b2.size)).trans (hbR.mono (by have := b2.size; have := b3.size; omega)), HNEW.out, by have := b2.size; have := b3.size; omega⟩
    have HR0 := Lib.hid R0
    obtain ⟨t, ht⟩ : ∃ t, w3.heap.size = t := ⟨_, rfl⟩
    revert HR0
    rw [ht]
    clear R0 HTI HNEW HB2 HB3
    generalize (w3.alloc (.cells [.int .i64 0, .slice none 0 0].toArray 30)).setRow t [.int .i64 mg, .slice none 0 0].toArray = w4
    intro HR0
    go_loopw [9] (fun i wr => ∃ (j : Nat) (L : List En) (S : Nat → Prop), i = .int .i64 (j : Int) ∧ j ≤ n ∧ RQ w wr p t mg j L S) (fun i _ => n - (RowKit.intOf i).toNat)
    case atStart => exact ⟨0, [], S, rfl, Nat.zero_le _, HR0.out⟩
    case round =>
      obtain ⟨j, L, S, rfl, hj, hR⟩ := hrel
      have HR := Lib.hid hR
      clear hR
      by_cases hlt : j < n
      · have t2 : decide ((j : Int) < (n : Int)) = true := by simpa using hlt
        obtain ⟨o, ho⟩ : ∃ o, l[j]? = some o := ⟨_, List.getElem?_eq_getElem (by omega)⟩
        have hwf := HQ.out o (List.mem_of_getElem? ho)
        obtain ⟨b, off, rfl, hbl, hat⟩ := HS.out.2 (by omega)
        have hat := (hat j o ho).step hbl HR.out.bel
        have hbl : b < wr.heap.size := by have := HR.out.bel.size; omega
        have j0 : 0 ≤ (j : Int) ∧ (j : Int) < (n : Int) := by omega
        have PC := Lib.hid (fun (w1 : World) (hS : Below wr.heap.size wr w1) => playC w1 (HR.out.ps.step hS) (by omega) (by have := HR.out.ll; omega) hwf)
        clear hwf ho
        go_wp2_with fail
        refine wp_region_ph [(5, .free []), (6, .seq), (41, .free [])] (by kernel_rfl) (by kernel_rfl) ?_
        refine Ph.belowd ?_
        simp only [List.drop_succ_cons, List.drop_zero, List.take_succ_cons, List.take_zero, Nat.reduceSub, Nat.sub_zero]
        iterate 4 (refine SeqO.val (v := ?_) (by rfl) (by rfl) (fun w1 hS => ?_) ?_; rotate_left; (· obtain ⟨hc, hcf⟩ := bcell hS; go_simp; try with_reducible rfl); simp only [Act.put, List.setIfInBounds_toArray, List.set_cons_zero, List.set_cons_succ])
        refine SeqO.at (l := (ocl o)) (by rfl) (by rfl) hbl hat Tryz.underlying40 (by rfl) (by kernel_rfl) (by rfl) (by rfl) ?_
        simp only [Act.put, List.setIfInBounds_toArray, List.set_cons_zero, List.set_cons_succ]
        refine SeqO.nil0 fun w8 hS8 => ?_
        refine Ph.list ?_
        simp only [List.drop_succ_cons, List.drop_zero, List.take_succ_cons, List.take_zero, Nat.reduceSub, Nat.sub_zero]
        with_reducible refine wpL_call (ca := ?_) (args := ?_) ?_ ?_ cf7 ?_ ?_
        rotate_left 2
        · kernel_rfl
        · rfl
        · simp [Act.eval] <;> rfl
        refine (PC.out w8 hS8).mono ?_
        rintro e w9 ⟨rfl, S', hP, hA⟩
        have HN := Lib.hid (RQ.next (HR.out.step hS8) hP (step_len mg L o) hA)
        obtain ⟨L', hL'⟩ : ∃ L', stepL mg L o = L' := ⟨_, rfl⟩
        rw [hL'] at HN
        clear hP hA PC hL' hat
        refine ⟨_, rfl, ?_⟩
        conv => arg 5; simp only [Act.put, List.setIfInBounds_toArray, List.set_cons_zero, List.set_cons_succ]
        refine wpList_nil ?_
        obtain ⟨hv, hok, HH⟩ := heightE w9 HN.out.ps.ti
        obtain ⟨h0, h1, h2⟩ := dig_hgt hok
        have HC := Lib.hid HH
        obtain ⟨A2, cap2, hd2, _⟩ := HN.out.ps.dt
        have htl := hd2.bx.lt
        have cl := hd2.bx.cell 1
        simp only [List.getElem?_cons_zero, List.getElem?_cons_succ] at cl
        have hll := HN.out.ll
        have DC := Lib.hid (fun w1 => digC (n := L'.length) w1 (by omega))
        have LC := Lib.hid (fun (w1 : World) (hS : Below w9.heap.size w9 w1) => lenC w1 (HN.out.ps.ti.step hS))
        have hdl := dig_le L'.length
        obtain ⟨d, hd⟩ : ∃ d, digN L'.length = d := ⟨_, rfl⟩
        rw [hd] at h1 DC hdl
        have v1 : IntKind.i64.wrap (2 * (d : Int)) = 2 * (d : Int) := by rw [IntKind.wrap_i64]; omega
        have q1 : decide (hv < 0) = false := decide_eq_false (by omega)
        have q2 : decide (2 * (d : Int) < hv) = false := decide_eq_false (by omega)
        have v2 : IntKind.i64.wrap ((j : Int) + 1) = ((j + 1 : Nat) : Int) := by rw [IntKind.wrap_i64]; omega
        clear HH hok hd2 h0 h1 hd hll hdl
        refine Ph.below ?_
        simp only [List.drop_succ_cons, List.drop_zero, List.take_succ_cons, List.take_zero, Nat.reduceSub, Nat.sub_zero]
        by_cases hq2 : L'.length < 2
        · have q3 : decide ((L'.length : Int) < 2) = true := decide_eq_true (by omega)
          obtain rfl : hv = 0 := h2 hq2
          clear h2
          repeat (first | (refine SeqO.skip (by rfl) (by rfl) ?_; simp only [Act.put, List.setIfInBounds_toArray, List.set_cons_zero, List.set_cons_succ]) | (refine SeqO.callv (by rfl) (by rfl) (by rfl) cf8 (by simp [Act.eval]) (fun w1 hS => (LC.out w1 hS)) ?_; simp only [Act.put, List.setIfInBounds_toArray, List.set_cons_zero, List.set_cons_succ]) | (refine SeqO.callv (by rfl) (by rfl) (by rfl) cf9 (by simp [Act.eval]) (fun w1 hS => (HC.out w1 hS)) ?_; simp only [Act.put, List.setIfInBounds_toArray, List.set_cons_zero, List.set_cons_succ]) | (refine SeqO.callv (by rfl) (by rfl) (by rfl) cf10 (by simp [Act.eval]) (fun w1 hS => (DC.out w1)) ?_; simp only [Act.put, List.setIfInBounds_toArray, List.set_cons_zero, List.set_cons_succ]) | (refine SeqO.val (v := ?_) (by rfl) (by rfl) (fun w1 hS => ?_) ?_; rotate_left; (· obtain ⟨hc, hcf⟩ := bcell hS; go_simp; try with_reducible rfl); simp only [Act.put, List.setIfInBounds_toArray, List.set_cons_zero, List.set_cons_succ]))
          refine SeqO.nil0 fun w10 hS10 => ?_
          refine Ph.last ?_
          simp only [List.drop_succ_cons, List.drop_zero, List.take_succ_cons, List.take_zero, Nat.reduceSub, Nat.sub_zero]
          refine wpList_nil ?_
          have HN2 := Lib.hid (HN.out.step hS10)
          clear HN hS10 LC HC cl htl
          go_wp2_with fail
          exact ⟨⟨j + 1, L', S', rfl, by omega, HN2.out⟩, by simp [RowKit.intOf]; omega⟩
        · have q3 : decide ((L'.length : Int) < 2) = false := decide_eq_false (by omega)
          clear h2
          repeat (first | (refine SeqO.skip (by rfl) (by rfl) ?_; simp only [Act.put, List.setIfInBounds_toArray, List.set_cons_zero, List.set_cons_succ]) | (refine SeqO.callv (by rfl) (by rfl) (by rfl) cf8 (by simp [Act.eval]) (fun w1 hS => (LC.out w1 hS)) ?_; simp only [Act.put, List.setIfInBounds_toArray, List.set_cons_zero, List.set_cons_succ]) | (refine SeqO.callv (by rfl) (by rfl) (by rfl) cf9 (by simp [Act.eval]) (fun w1 hS => (HC.out w1 hS)) ?_; simp only [Act.put, List.setIfInBounds_toArray, List.set_cons_zero, List.set_cons_succ]) | (refine SeqO.callv (by rfl) (by rfl) (by rfl) cf10 (by simp [Act.eval]) (fun w1 hS => (DC.out w1)) ?_; simp only [Act.put, List.setIfInBounds_toArray, List.set_cons_zero, List.set_cons_succ]) | (refine SeqO.val (v := ?_) (by rfl) (by rfl) (fun w1 hS => ?_) ?_; rotate_left; (· obtain ⟨hc, hcf⟩ := bcell hS; go_simp; try with_reducible rfl); simp only [Act.put, List.setIfInBounds_toArray, List.set_cons_zero, List.set_cons_succ]))
          refine SeqO.nil0 fun w10 hS10 => ?_
          refine Ph.last ?_
          simp only [List.drop_succ_cons, List.drop_zero, List.take_succ_cons, List.take_zero, Nat.reduceSub, Nat.sub_zero]
          refine wpList_nil ?_
          have HN2 := Lib.hid (HN.out.step hS10)
          clear HN hS10 LC HC cl htl
          go_wp2_with fail
          exact ⟨⟨j + 1, L', S', rfl, by omega, HN2.out⟩, by simp [RowKit.intOf]; omega⟩
      · obtain rfl : j = n := by omega
        have t2 : decide ((j : Int) < (j : Int)) = false := by simp
        have hll := HR.out.ll
        have hn2 : L.length ≤ 200 := by omega
        have hpl : (pairsP L).length ≤ 100000 := by have h1 := pairs_len L; have h2 := Nat.mul_le_mul hn2 hn2; omega
        obtain ⟨A2, cap2, hd2, _⟩ := HR.out.ps.dt
        have hbx := hd2.bx
        have htl := hbx.lt
        have hsl := hd2.sl
        have O1 := Lib.hid (fun (w1 : World) (hS : Below wr.heap.size wr w1) => ownRet (base := wr.heap.size) hS.size (pairsC w1 (HR.out.ps.ti.step hS) (by omega) (by omega)))
        have O2 := Lib.hid (fun (w1 : World) (hS : Below wr.heap.size wr w1) => ownRet (base := wr.heap.size) hS.size (DPr.rpairsC cap2 mg w1 (hsl.step hS) (by omega)))
        have HW := Lib.hid HR.out.bel
        clear hll hd2 hsl HR hj
        go_wp2_with fail
        refine wp_region_ph [(4, .free [1, 3]), (5, .seq), (6, .free []), (7, .seq), (9, .free [])] (by kernel_rfl) (by kernel_rfl) ?_
        refine Ph.gend [(1, ownK wr.heap.size (pairsP L)), (3, ownK wr.heap.size (pairsP L))] (by rfl) ?_
        simp only [List.drop_succ_cons, List.drop_zero, List.take_succ_cons, List.take_zero, Nat.reduceSub, Nat.sub_zero]
        iterate 1 (refine SeqO.valG (v := ?_) (by rfl) (by rfl) (fun w1 hS => ?_) ?_; rotate_left; (· obtain ⟨hc, hcf⟩ := bcell hS; go_simp; try with_reducible rfl); simp only [Act.put, List.setIfInBounds_toArray, List.set_cons_zero, List.set_cons_succ])
        refine SeqO.callG (ownK wr.heap.size (pairsP L)) (by rfl) (by simp) (by rfl) (by rfl) cf12 (by simp [Act.eval]) (fun w1 hS => O1.out w1 hS) ?_
        refine SeqO.atG (l := [.int .i64 mg, .slice A2 L.length cap2]) (by rfl) (by rfl) htl (hbx.part 0 2) Tryz.underlying30 (by rfl) (by kernel_rfl) (by rfl) (by rfl) ?_
        simp only [Act.put, List.setIfInBounds_toArray, List.set_cons_zero, List.set_cons_succ]
        refine SeqO.callG (ownK wr.heap.size (pairsP L)) (by rfl) (by simp) (by rfl) (by rfl) cf13 (by simp [Act.eval]) (fun w1 hS => O2.out w1 hS) ?_
        refine SeqO.nilG (by rfl) fun u w1 hS hK => ?_
        have hk1 : OwnS w1 wr.heap.size (u 1) (pairsP L) := hK _ (List.mem_cons_self ..)
        have hk2 : OwnS w1 wr.heap.size (u 3) (pairsP L) := hK _ (List.mem_cons_of_mem _ (List.mem_cons_self ..))
        clear hK
        simp only [List.nil_append, List.cons_append, List.foldl_cons, List.foldl_nil]
        have HW1 := Lib.hid (HW.out.trans (hS.mono HW.out.size))
        obtain ⟨v1, hv1⟩ : ∃ v, u 1 = v := ⟨_, rfl⟩
        obtain ⟨v2, hv2⟩ : ∃ v, u 3 = v := ⟨_, rfl⟩
        rw [hv1] at hk1
        rw [hv2] at hk2
        rw [hv1, hv2]
        clear hv1 hv2 O1 O2 hS hbx htl HW
        simp only [Act.put, List.setIfInBounds_toArray, List.set_cons_zero, List.set_cons_succ]
        refine Ph.list ?_
        simp only [List.drop_succ_cons, List.drop_zero, List.take_succ_cons, List.take_zero, Nat.reduceSub, Nat.sub_zero]
        with_reducible refine wpL_call (ca := ?_) (args := ?_) ?_ ?_ cf11 ?_ ?_
        rotate_left 2
        · kernel_rfl
        · rfl
        · simp [Act.eval] <;> rfl
        refine (TSm.samePairsC w1 hk1 hk2 hpl).mono ?_
        rintro e w10 ⟨rfl, hb10⟩
        have HW2 := Lib.hid (HW1.out.trans (hb10.mono HW1.out.size))
        refine ⟨_, rfl, ?_⟩
        conv => arg 5; simp only [Act.put, List.setIfInBounds_toArray, List.set_cons_zero, List.set_cons_succ]
        refine wpList_nil ?_
        refine Ph.below ?_
        simp only [List.drop_succ_cons, List.drop_zero, List.take_succ_cons, List.take_zero, Nat.reduceSub, Nat.sub_zero]
        iterate 1 (refine SeqO.val (v := ?_) (by rfl) (by rfl) (fun w1 hS => ?_) ?_; rotate_left; (· obtain ⟨hc, hcf⟩ := bcell hS; go_simp; try with_reducible rfl); simp only [Act.put, List.setIfInBounds_toArray, List.set_cons_zero, List.set_cons_succ])
        refine SeqO.nil0 fun w11 hS11 => ?_
        have HW3 := Lib.hid (HW2.out.trans (hS11.mono HW2.out.size))
        refine Ph.list ?_
        simp only [List.drop_succ_cons, List.drop_zero, List.take_succ_cons, List.take_zero, Nat.reduceSub, Nat.sub_zero]
        with_reducible refine wpL_call (ca := ?_) (args := ?_) ?_ ?_ cf4 ?_ ?_
        rotate_left 2
        · kernel_rfl
        · rfl
        · simp [Act.eval] <;> rfl
        refine (awakeC w11).mono ?_
        rintro e w12 ⟨rfl, hb12⟩
        have HW4 := Lib.hid (HW3.out.trans (hb12.mono HW3.out.size))
        refine ⟨_, rfl, ?_⟩
        conv => arg 5; simp only [Act.put, List.setIfInBounds_toArray, List.set_cons_zero, List.set_cons_succ]
        refine wpList_nil ?_
        refine Ph.below ?_
        simp only [List.drop_succ_cons, List.drop_zero, List.take_succ_cons, List.take_zero, Nat.reduceSub, Nat.sub_zero]
        iterate 2 (refine SeqO.val (v := ?_) (by rfl) (by rfl) (fun w1 hS => ?_) ?_; rotate_left; (· obtain ⟨hc, hcf⟩ := bcell hS; go_simp; try with_reducible rfl); simp only [Act.put, List.setIfInBounds_toArray, List.set_cons_zero, List.set_cons_succ])
        refine SeqO.nil0 fun w13 hS13 => ?_
        have HW5 := Lib.hid (HW4.out.trans (hS13.mono HW4.out.size))
        refine Ph.last ?_
        simp only [List.drop_succ_cons, List.drop_zero, List.take_succ_cons, List.take_zero, Nat.reduceSub, Nat.sub_zero]
        refine wpList_nil ?_
        go_wp2_with fail
        exact bodyPost_ret (v := .bool true) (by simp [results, Tryz.results3, go_sem]) rfl ⟨rfl, HW5.out⟩
  · go_enter Tryz.func3, Tryz.ntmps3
    go_wp2_with fail
    refine Calls.mono (newNo _ hm) ?_
    rintro e w2 ⟨rfl, hb2⟩
    have HB2 := Lib.hid hb2
    clear hb2
    go_wp2_with fail
    refine Calls.mono (DNe.rnewNo mg w2 hm) ?_
    rintro e w3 ⟨rfl, hb3⟩
    have HB3 := Lib.hid (HB2.out.trans (hb3.mono HB2.out.size))
    clear hb3
    go_wp2_with (refine wpL_store (cs := [.int .i64 0, .slice none 0 0]) (by rfl) (by rfl) (by rfl) (Box.new (l := [.int .i64 0, .slice none 0 0]) rfl) (by kernel_rfl) (by rfl) (by simp [Value.oneCell']) (by kernel_rfl) ?_; (conv => arg 5; simp only [Act.put, List.setIfInBounds_toArray, List.set_cons_zero, List.set_cons_succ]))
    refine Calls.mono (awakeC _) ?_
    rintro e w4 ⟨rfl, hb4⟩
    have hbA : Below w3.heap.size w3 (w3.alloc (.cells [.int .i64 0, .slice none 0 0].toArray 30)) := (Below.refl _ _).alloc (Nat.le_refl _) _
    have hbR := below_row hbA (Nat.le_refl _) [.int .i64 0, .slice none 0 0].toArray
    have HB4 := Lib.hid ((HB3.out.trans (hbR.mono HB3.out.size)).trans (hb4.mono (by have := HB3.out.size; have := hbR.size; omega)))
    clear hbA hbR hb4
    go_wp2_with fail
    exact bodyPost_ret (v := .bool true) (by simp [results, Tryz.results3, go_sem]) rfl ⟨rfl, HB4.out⟩
end LPy
end Go.Proofs.YtbcjnckejkjfeaaGreat
namespace Go.Proofs.YtbcjnckejkjfeaaGreat
set_option linter.unusedVariables false
open Go.Joins Go.ChangeShapes Go.WideShapes Go.ChangeAt Go.RowKit Go.Deep Go.NP
set_option maxRecDepth 100000 in
theorem treePlaysLifted (os : Os) (started : os.Started) (H : Type) (enc : TypeId × Value → H) :
    ReturnsInHanded {} Tryz.checked os 3 .any (Rows.treePlaysSpec.pre6 enc Tryz.prog Tryz.f3 Rows.treePlaysRow.domain false) (Rows.treePlaysSpec.post enc Tryz.prog Tryz.f3 false true false false) := by
  refine returnsInHanded_of_change (C := Tryz.checked) own started (by kernel_rfl) Tryz.func3
    (ChangeSpec.witness6 (enc := enc) (C := Tryz.checked) false ⟨#[], #[.int .i64 0, .slice none 0 0], []⟩ 8 (by kernel_rfl) (by kernel_rfl) (by kernel_rfl) (by kernel_rfl)) ?_
  intro W base args ds gs before hval0 hW hcnd _
  have hval : ∀ (j : Nat) t v, Tryz.f3.params[j]? = some t → args[j]? = some v → Value.okWide Tryz.prog W .any base t v := hval0
  have hW' := hW
  obtain ⟨p, q, hA0, hV, rfl, hfz, hnd⟩ := hW
  have hA : DataW.TrodAll enc Tryz.prog W 0 (fun _ => true) true Tryz.f3.params.toList args.toList ds p := hA0
  rw [Tryz.params3] at hA hval
  obtain ⟨v0, vs0, d0, ds0, p0, q0, hargs, rfl, rfl, h0, r0⟩ := trodAll_cons hA
  obtain ⟨v1, vs1, d1, ds1, p1, q1, rfl, rfl, rfl, h1, r1⟩ := trodAll_cons r0
  obtain ⟨rfl, rfl, rfl⟩ := trodAll_nil r1
  obtain rfl : args = #[v0, v1] := by cases args; simp_all
  obtain ⟨rfl, rfl⟩ := trodVars_none hV
  have k1 := h1
  have lt1 : ∀ x ∈ p1, x.block < W.heap.size := by obtain ⟨m, hm⟩ := k1; exact DataW.trod_lt m _ _ _ hm
  obtain ⟨a0, rfl, rfl, rfl, w0⟩ := open_int Tryz.underlying2 (hval 0 2 v0 rfl rfl) h0
  obtain ⟨A1, n1, c1, a1, rfl, hs1⟩ := OpO.open_ops (hval 1 22 v1 rfl rfl) h1
  clear hA0 hval0
  refine Calls.mono (LPy.lawGo W hs1.1 hs1.2) fun e W' ⟨he, bel⟩ => ?_
  subst he
  exact ⟨_, rfl, _, _, _, [], _, [], hW', trodAll_mk1 (shut_bool Tryz.underlying4 _), (trodAll_cons_mk (shut_int Tryz.underlying2 w0) (trodAll_cons_mk (Below.trod laidOut (by kernel_rfl) (of_decide_eq_true (by kernel_rfl)) k1 bel lt1) trodAll_mk0)), rfl, bel.frame _, fun h => by cases h⟩
theorem treePlays_holds : Rows.TreePlaysSaid :=
  OpenClaim.holds_of_wide 3 Tryz.f3 rfl rfl rfl rfl rfl rfl rfl ⟨rfl, rfl, rfl, rfl, rfl⟩ rfl rfl rfl rfl rfl (by kernel_rfl) Tryz.func3 (by kernel_rfl)
    (of_decide_eq_true (by kernel_rfl)) (by unfold Func.isWrapper; first | (rw [if_pos (by decide +kernel)]; kernel_rfl) | (rw [if_neg (by decide +kernel)]; exact ⟨rfl, rfl⟩))
    (fun os started H enc _ => treePlaysLifted os started H enc)
end Go.Proofs.YtbcjnckejkjfeaaGreat
