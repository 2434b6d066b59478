/- The document's island of a number: the walk. Condition: at most 1000 pairs, 1000 numbers; the number stands in a pair and is not fixed. -/
import Derived.Test.YtocelepohkbooaaQWp
namespace Go.Proofs.Ytocelepohkbooaa
set_option linter.unusedVariables false
set_option linter.unusedSimpArgs false
open Go.RowKit Go.NP
namespace QId
open QVl QIn QWt QWp QIp QIl QCk
theorem cfWt (args : Array Value) (w1 : World) : (callFunc 35 args).run Try.prog w1 = .ok (.enter 35 args) w1 := enters Try.func35 (by kernel_rfl) (by kernel_rfl) args w1
def flag : Value → Nat
  | .bool true => 1
  | _ => 0
def slen : Value → Nat
  | .slice _ n _ => n
  | _ => 0
theorem own_len {w : World} {base : Nat} {T : TypeId} {v : Value} {l : List Value} (h : OwnV w base T v l) : slen v = l.length := by
  obtain ⟨A, c, rfl, _⟩ := h.sl; rfl
theorem with_len (l : List Int) (x : Int) : (withS l x).length = if x ∈ l then l.length else l.length + 1 := by
  unfold withS
  split
  · rfl
  · have e := congrArg List.length (List.takeWhile_append_dropWhile (p := fun y => decide (y < x)) (l := l))
    rw [List.length_append] at e
    rw [List.length_append, List.length_cons]; omega
theorem with_two {l : List Int} {a b : Int} (h : decide (a ∈ l) ≠ decide (b ∈ l)) : l.length < (withS (withS l a) b).length := by
  rw [with_len (withS l a), with_len l]
  by_cases ha : a ∈ l
  · have hb : b ∉ l := fun hb => h (by simp [ha, hb])
    have e : withS l a = l := if_pos ha
    rw [e, if_neg hb, if_pos ha]; omega
  · rw [if_neg ha]; split <;> omega
/-- What is said of an island while it grows. -/
structure Good (C : List Int) (x0 : Int) (out : List Int) : Prop where
  r : rise out
  m : x0 ∈ out
  s : ∀ y ∈ out, y ∈ C
/-- Rows that hold a list. -/
def KO (B : Nat) (l : List Int) : Keep where
  p x w := OwnV w B 3 x (l.map (.int .i64))
  st x w w' h hb := h.step hb
def cl (fx out : List Int) (p : Pr) : Prop := p.a ∉ fx → p.b ∉ fx → (p.a ∈ out ↔ p.b ∈ out)
set_option maxRecDepth 100000 in
set_option maxHeartbeats 8000000 in
theorem islandC {A B : Option Addr} {n m : Nat} (c d : Nat) {l : List Pr} {fx : List Int} (x0 : Int) (w : World) (h : SlS w A n l) (hx : SlV w B m (fx.map (.int .i64))) (hok : ∀ p ∈ l, okP p) (hk0 : keyB fx l x0 = true) (hn : n ≤ 1000) (hm : m ≤ 1000) :
    Calls Try.prog 36 #[.slice A n c, .slice B m d, .int .i64 x0] w fun e w' => ∃ v, e = .returned v ∧ OwnV w' w.heap.size 3 v ((comp fx l x0).map (.int .i64)) ∧ Below w.heap.size w w' := by
  have hln := h.1
  obtain ⟨C, hC⟩ : ∃ C, comp fx l x0 = C := ⟨_, rfl⟩
  have PAIR := Lib.hid (fun p hp ha hb => comp_pair (fx := fx) hok (n := x0) (p := p) hp ha hb)
  have IS := Lib.hid (fun out hr hn hs hc => comp_is (fx := fx) hok (n := x0) (out := out) hr hn hs hc)
  have CR := Lib.hid (comp_rise fx l x0)
  have CL := Lib.hid (comp_len fx l x0)
  have C0 := Lib.hid (show x0 ∈ comp fx l x0 from (comp_mem hok).2 ⟨hk0, rfl⟩)
  rw [hC] at PAIR IS CR CL C0
  rw [hC]
  have H := Lib.hid h; have HX := Lib.hid hx; have LN := Lib.hid hln
  have GL := Lib.hid (fun (out : List Int) (g : Good C x0 out) => Nat.le_trans (rise_sub g.r CR.out g.s) CL.out)
  clear h hx hok hk0 hC
  have hN : OwnV (w.alloc (.cells [.int .i64 x0].toArray 3)) w.heap.size 3 (.slice (some ⟨w.heap.size, 0, none⟩) 1 1) ([x0].map (.int .i64)) := QVl.own_new w 3 [.int .i64 x0] (by simp)
  have S0 := (Below.refl w.heap.size w).alloc (Nat.le_refl _) (.cells [.int .i64 x0].toArray 3)
  have G0 := Lib.hid (show Good C x0 [x0] from ⟨List.pairwise_singleton .., List.mem_singleton.2 rfl, fun y hy => by obtain rfl := List.mem_singleton.1 hy; exact C0.out⟩)
  go_enter Try.func36, Try.ntmps36
  go_wp2_with fail
  go_loopw [7, 8] (fun ov mv wr => ∃ (out : List Int) (b : Bool), mv = .bool b ∧ OwnV wr w.heap.size 3 ov (out.map (.int .i64)) ∧ Good C x0 out ∧ (b = false → ∀ p ∈ l, cl fx out p) ∧ Below w.heap.size w wr) (fun ov mv _ => 2 * (5000 - slen ov) + flag mv)
  case atStart => exact ⟨[x0], true, rfl, hN, G0.out, fun h => (by cases h), S0⟩
  case round =>
    clear hN S0 G0
    obtain ⟨out, b, rfl, hO, hG, hcl, hW⟩ := hrel
    cases b with
    | false =>
      have e := IS.out out hG.r hG.m hG.s (fun p hp ha hb => hcl rfl p hp ha hb)
      rw [e] at hO
      clear e hG hcl
      go_wp2_with fail
      go_ret
      exact ⟨_, rfl, hO, hW⟩
    | true =>
      have hG0 := Lib.hid hG
      have hL0 := own_len hO
      rw [List.length_map] at hL0
      obtain ⟨wa, hwa⟩ : ∃ x, x = wr := ⟨_, rfl⟩
      subst hwa
      clear hcl
      go_wp2_with fail
      go_loopw [7, 8, 9] (fun ov mv i w2 => ∃ (k : Nat) (out2 : List Int) (b2 : Bool), k ≤ n ∧ i = .int .i64 (k : Int) ∧ mv = .bool b2 ∧ OwnV w2 w.heap.size 3 ov (out2.map (.int .i64)) ∧ Good C x0 out2 ∧ (b2 = false → out2 = out ∧ ∀ p ∈ l.take k, cl fx out p) ∧ (b2 = true → out.length < out2.length) ∧ Below w.heap.size w w2) (fun _ _ i _ => n - (RowKit.intOf i).toNat)
      case atStart => exact ⟨0, out, false, by omega, rfl, rfl, hO, hG0.out, fun _ => ⟨rfl, fun p hp => by simp at hp⟩, fun h => (by cases h), hW⟩
      case round =>
        clear hW hO hG
        obtain ⟨k, out2, b2, hk, rfl, rfl, hO, hG, hF, hT, hW⟩ := hrel
        by_cases hlt : k < n
        · obtain ⟨p, hp⟩ : ∃ p, l[k]? = some p := ⟨_, List.getElem?_eq_getElem (by have := LN.out; omega)⟩
          obtain ⟨b, off, rfl, hb0, hsA⟩ := H.out.2 (by omega)
          have at1 := hsA.step hb0 hW _ _ hp
          have z0 := at1 0 _ rfl; have z1 := at1 1 _ rfl
          simp only [Nat.add_zero] at z0
          have hbz : b < wr.heap.size := Nat.lt_of_lt_of_le hb0 hW.size
          have t3 : decide ((k : Int) < (n : Int)) = true := decide_eq_true (by omega)
          have k0 : 0 ≤ (k : Int) ∧ (k : Int) < n := by omega
          have hpl := List.mem_of_getElem? hp
          have TK := Lib.hid (take_snoc hp)
          have l2 := GL.out out2 hG
          have hO2 := hO
          obtain ⟨A2, c2, e2, hs2, _⟩ := hO.sl
          obtain ⟨n2, hn2⟩ : ∃ x, out2.length = x := ⟨_, rfl⟩
          rw [List.length_map, hn2] at e2 hs2
          rw [hn2] at l2
          subst e2
          obtain ⟨fa, hfa⟩ : ∃ x, decide (p.a ∈ fx) = x := ⟨_, rfl⟩
          obtain ⟨fb, hfb⟩ : ∃ x, decide (p.b ∈ fx) = x := ⟨_, rfl⟩
          obtain ⟨ea, hea⟩ : ∃ x, decide (p.a ∈ out2) = x := ⟨_, rfl⟩
          obtain ⟨eb, heb⟩ : ∃ x, decide (p.b ∈ out2) = x := ⟨_, rfl⟩
          have FA := Lib.hid (fun w1 (hS : Below wr.heap.size wr w1) => (show RetB Try.prog 20 #[.slice B m d, .int .i64 p.a] w1 (.bool fa) from by rw [← hfa]; exact inC d p.a w1 (HX.out.step (hW.trans (hS.mono hW.size))) (by omega)))
          have FB := Lib.hid (fun w1 (hS : Below wr.heap.size wr w1) => (show RetB Try.prog 20 #[.slice B m d, .int .i64 p.b] w1 (.bool fb) from by rw [← hfb]; exact inC d p.b w1 (HX.out.step (hW.trans (hS.mono hW.size))) (by omega)))
          have EA := Lib.hid (fun w1 (hS : Below wr.heap.size wr w1) => (show RetB Try.prog 20 #[.slice A2 n2 c2, .int .i64 p.a] w1 (.bool ea) from by rw [← hea]; exact inC c2 p.a w1 (hs2.step hS) (by omega)))
          have EB := Lib.hid (fun w1 (hS : Below wr.heap.size wr w1) => (show RetB Try.prog 20 #[.slice A2 n2 c2, .int .i64 p.b] w1 (.bool eb) from by rw [← heb]; exact inC c2 p.b w1 (hs2.step hS) (by omega)))
          -- what the next round has, where nothing is added
          have SK := Lib.hid (show (cl fx out2 p) → (b2 = false → out2 = out ∧ ∀ q ∈ l.take (k + 1), cl fx out q) from fun hc hb => by
            obtain ⟨h1, h2⟩ := hF hb
            refine ⟨h1, fun q hq => ?_⟩
            rw [TK.out] at hq
            rcases List.mem_append.1 hq with hq | hq
            · exact h2 q hq
            · obtain rfl := List.mem_singleton.1 hq
              rw [← h1]; exact hc)
          have PC := Lib.hid (show (fa = true → p.a ∈ fx) ∧ (fb = true → p.b ∈ fx) ∧ (fa = false → p.a ∉ fx) ∧ (fb = false → p.b ∉ fx) ∧ (ea = decide (p.a ∈ out2)) ∧ (eb = decide (p.b ∈ out2)) from by
            refine ⟨fun h => ?_, fun h => ?_, fun h => ?_, fun h => ?_, hea.symm, heb.symm⟩
            · rw [h] at hfa; exact of_decide_eq_true hfa
            · rw [h] at hfb; exact of_decide_eq_true hfb
            · rw [h] at hfa; exact of_decide_eq_false hfa
            · rw [h] at hfb; exact of_decide_eq_false hfb)
          have FO := Lib.hid (show b2 = false → out2 = out from fun hb => (hF hb).1)
          have HG := Lib.hid hG; have HT := Lib.hid hT; have HP := Lib.hid hpl; have HO2 := Lib.hid hO2; have N2 := Lib.hid hn2
          clear hsA hp at1 hF hT hG hpl hO hO2 hs2 hfa hfb hea heb hn2 TK
          iterate 4 go_step
          iterate 4 (with_reducible refine wpL_val (v := ?_) ?_ ?_ ?_; rotate_left; (· kernel_rfl); (· go_simp; try with_reducible rfl); conv => arg 5; simp only [Act.put, List.setIfInBounds_toArray, List.set_cons_zero, List.set_cons_succ])
          refine wpList_nil ?_
          iterate 10 go_step
          have go2 : ∀ (w3 : World), Below wr.heap.size wr w3 → (cl fx out2 p) → (∃ (k_1 : Nat) (out2_1 : List Int) (b2_1 : Bool), k_1 ≤ n ∧ Value.int .i64 ((k : Int) + 1) = .int .i64 (k_1 : Int) ∧ Value.bool b2 = .bool b2_1 ∧ OwnV w3 w.heap.size 3 (.slice A2 n2 c2) (out2_1.map (.int .i64)) ∧ Good C x0 out2_1 ∧ (b2_1 = false → out2_1 = out ∧ ∀ q ∈ l.take k_1, cl fx out q) ∧ (b2_1 = true → out.length < out2_1.length) ∧ Below w.heap.size w w3) := fun w3 hS hc =>
            ⟨k + 1, out2, b2, by omega, by simp, rfl, HO2.out.step hS, HG.out, SK.out hc, HT.out, hW.trans (hS.mono hW.size)⟩
          have GO := Lib.hid go2
          have ms : n - (k + 1) < n - k := by omega
          clear go2
          cases hfa : fa with
          | true =>
            have hc : cl fx out2 p := fun h => absurd (PC.out.1 hfa) h
            have HC := Lib.hid hc
            subst hfa
            clear hc PC EA EB FB SK HG HT HO2 HP
            refine wp_region_ph [(33, .free [])] (by kernel_rfl) (by kernel_rfl) ?_
            refine Ph.belowd ?_
            simp only [List.drop_succ_cons, List.drop_zero, List.take_succ_cons, List.take_zero, Nat.reduceSub, Nat.sub_zero]
            iterate 6 (refine SeqO.val (v := ?_) (by rfl) (by rfl) (fun w1 hS => ?_) ?_; rotate_left; (· obtain ⟨hc, hcf⟩ := bcell hS; go_simp; try with_reducible rfl); simp only [Act.put, List.setIfInBounds_toArray, List.set_cons_zero, List.set_cons_succ])
            refine SeqO.callv (by rfl) (by rfl) (by rfl) QIn.cfIn (by simp [Act.eval]) (fun w1 hS => FA.out w1 hS) ?_
            simp only [Act.put, List.setIfInBounds_toArray, List.set_cons_zero, List.set_cons_succ]
            iterate 1 (refine SeqO.val (v := ?_) (by rfl) (by rfl) (fun w1 hS => ?_) ?_; rotate_left; (· obtain ⟨hc, hcf⟩ := bcell hS; go_simp; try with_reducible rfl); simp only [Act.put, List.setIfInBounds_toArray, List.set_cons_zero, List.set_cons_succ])
            iterate 7 (refine SeqO.skip (by rfl) (by rfl) ?_; simp only [Act.put, List.setIfInBounds_toArray, List.set_cons_zero, List.set_cons_succ])
            iterate 2 (refine SeqO.val (v := ?_) (by rfl) (by rfl) (fun w1 hS => ?_) ?_; rotate_left; (· obtain ⟨hc, hcf⟩ := bcell hS; go_simp; try with_reducible rfl); simp only [Act.put, List.setIfInBounds_toArray, List.set_cons_zero, List.set_cons_succ])
            iterate 15 (refine SeqO.skip (by rfl) (by rfl) ?_; simp only [Act.put, List.setIfInBounds_toArray, List.set_cons_zero, List.set_cons_succ])
            iterate 1 (refine SeqO.val (v := ?_) (by rfl) (by rfl) (fun w1 hS => ?_) ?_; rotate_left; (· obtain ⟨hc, hcf⟩ := bcell hS; go_simp; try with_reducible rfl); simp only [Act.put, List.setIfInBounds_toArray, List.set_cons_zero, List.set_cons_succ])
            refine SeqO.nil0 fun w3 hS3 => ?_
            refine Ph.last ?_
            simp only [List.drop_succ_cons, List.drop_zero, List.take_succ_cons, List.take_zero, Nat.reduceSub, Nat.sub_zero]
            refine wpList_nil ?_
            have R := Lib.hid (GO.out w3 hS3 HC.out)
            clear GO HC FA z0 z1 hS3 N2
            go_wp2_with fail
            exact ⟨R.out, by simp [RowKit.intOf]; exact ms⟩
          | false =>
            subst hfa
            cases hfb : fb with
            | true =>
              have hc : cl fx out2 p := fun _ h => absurd (PC.out.2.1 hfb) h
              have HC := Lib.hid hc
              subst hfb
              clear hc PC EA EB SK HG HT HO2 HP
              refine wp_region_ph [(33, .free [])] (by kernel_rfl) (by kernel_rfl) ?_
              refine Ph.belowd ?_
              simp only [List.drop_succ_cons, List.drop_zero, List.take_succ_cons, List.take_zero, Nat.reduceSub, Nat.sub_zero]
              iterate 6 (refine SeqO.val (v := ?_) (by rfl) (by rfl) (fun w1 hS => ?_) ?_; rotate_left; (· obtain ⟨hc, hcf⟩ := bcell hS; go_simp; try with_reducible rfl); simp only [Act.put, List.setIfInBounds_toArray, List.set_cons_zero, List.set_cons_succ])
              refine SeqO.callv (by rfl) (by rfl) (by rfl) QIn.cfIn (by simp [Act.eval]) (fun w1 hS => FA.out w1 hS) ?_
              simp only [Act.put, List.setIfInBounds_toArray, List.set_cons_zero, List.set_cons_succ]
              iterate 1 (refine SeqO.val (v := ?_) (by rfl) (by rfl) (fun w1 hS => ?_) ?_; rotate_left; (· obtain ⟨hc, hcf⟩ := bcell hS; go_simp; try with_reducible rfl); simp only [Act.put, List.setIfInBounds_toArray, List.set_cons_zero, List.set_cons_succ])
              iterate 6 (refine SeqO.val (v := ?_) (by rfl) (by rfl) (fun w1 hS => ?_) ?_; rotate_left; (· obtain ⟨hc, hcf⟩ := bcell hS; go_simp; try with_reducible rfl); simp only [Act.put, List.setIfInBounds_toArray, List.set_cons_zero, List.set_cons_succ])
              refine SeqO.callv (by rfl) (by rfl) (by rfl) QIn.cfIn (by simp [Act.eval]) (fun w1 hS => FB.out w1 hS) ?_
              simp only [Act.put, List.setIfInBounds_toArray, List.set_cons_zero, List.set_cons_succ]
              iterate 2 (refine SeqO.val (v := ?_) (by rfl) (by rfl) (fun w1 hS => ?_) ?_; rotate_left; (· obtain ⟨hc, hcf⟩ := bcell hS; go_simp; try with_reducible rfl); simp only [Act.put, List.setIfInBounds_toArray, List.set_cons_zero, List.set_cons_succ])
              iterate 15 (refine SeqO.skip (by rfl) (by rfl) ?_; simp only [Act.put, List.setIfInBounds_toArray, List.set_cons_zero, List.set_cons_succ])
              iterate 1 (refine SeqO.val (v := ?_) (by rfl) (by rfl) (fun w1 hS => ?_) ?_; rotate_left; (· obtain ⟨hc, hcf⟩ := bcell hS; go_simp; try with_reducible rfl); simp only [Act.put, List.setIfInBounds_toArray, List.set_cons_zero, List.set_cons_succ])
              refine SeqO.nil0 fun w3 hS3 => ?_
              refine Ph.last ?_
              simp only [List.drop_succ_cons, List.drop_zero, List.take_succ_cons, List.take_zero, Nat.reduceSub, Nat.sub_zero]
              refine wpList_nil ?_
              have R := Lib.hid (GO.out w3 hS3 HC.out)
              clear GO HC FA FB z0 z1 hS3 N2
              go_wp2_with fail
              exact ⟨R.out, by simp [RowKit.intOf]; exact ms⟩
            | false =>
              subst hfb
              have pa := PC.out.2.2.1 rfl
              have pb := PC.out.2.2.2.1 rfl
              by_cases hee : ea = eb
              · have hc : cl fx out2 p := fun _ _ => by
                  have h1 := PC.out.2.2.2.2.1
                  have h2 := PC.out.2.2.2.2.2
                  rw [hee] at h1
                  exact decide_eq_decide.1 (h1.symm.trans h2)
                have HC := Lib.hid hc
                have be : (ea == eb) = true := by simpa using hee
                clear hc PC SK HG HT HO2 HP pa pb
                refine wp_region_ph [(33, .free [])] (by kernel_rfl) (by kernel_rfl) ?_
                refine Ph.belowd ?_
                simp only [List.drop_succ_cons, List.drop_zero, List.take_succ_cons, List.take_zero, Nat.reduceSub, Nat.sub_zero]
                iterate 6 (refine SeqO.val (v := ?_) (by rfl) (by rfl) (fun w1 hS => ?_) ?_; rotate_left; (· obtain ⟨hc, hcf⟩ := bcell hS; go_simp; try with_reducible rfl); simp only [Act.put, List.setIfInBounds_toArray, List.set_cons_zero, List.set_cons_succ])
                refine SeqO.callv (by rfl) (by rfl) (by rfl) QIn.cfIn (by simp [Act.eval]) (fun w1 hS => FA.out w1 hS) ?_
                simp only [Act.put, List.setIfInBounds_toArray, List.set_cons_zero, List.set_cons_succ]
                iterate 1 (refine SeqO.val (v := ?_) (by rfl) (by rfl) (fun w1 hS => ?_) ?_; rotate_left; (· obtain ⟨hc, hcf⟩ := bcell hS; go_simp; try with_reducible rfl); simp only [Act.put, List.setIfInBounds_toArray, List.set_cons_zero, List.set_cons_succ])
                iterate 6 (refine SeqO.val (v := ?_) (by rfl) (by rfl) (fun w1 hS => ?_) ?_; rotate_left; (· obtain ⟨hc, hcf⟩ := bcell hS; go_simp; try with_reducible rfl); simp only [Act.put, List.setIfInBounds_toArray, List.set_cons_zero, List.set_cons_succ])
                refine SeqO.callv (by rfl) (by rfl) (by rfl) QIn.cfIn (by simp [Act.eval]) (fun w1 hS => FB.out w1 hS) ?_
                simp only [Act.put, List.setIfInBounds_toArray, List.set_cons_zero, List.set_cons_succ]
                iterate 2 (refine SeqO.val (v := ?_) (by rfl) (by rfl) (fun w1 hS => ?_) ?_; rotate_left; (· obtain ⟨hc, hcf⟩ := bcell hS; go_simp; try with_reducible rfl); simp only [Act.put, List.setIfInBounds_toArray, List.set_cons_zero, List.set_cons_succ])
                iterate 6 (refine SeqO.val (v := ?_) (by rfl) (by rfl) (fun w1 hS => ?_) ?_; rotate_left; (· obtain ⟨hc, hcf⟩ := bcell hS; go_simp; try with_reducible rfl); simp only [Act.put, List.setIfInBounds_toArray, List.set_cons_zero, List.set_cons_succ])
                refine SeqO.callv (by rfl) (by rfl) (by rfl) QIn.cfIn (by simp [Act.eval]) (fun w1 hS => EA.out w1 hS) ?_
                simp only [Act.put, List.setIfInBounds_toArray, List.set_cons_zero, List.set_cons_succ]
                iterate 6 (refine SeqO.val (v := ?_) (by rfl) (by rfl) (fun w1 hS => ?_) ?_; rotate_left; (· obtain ⟨hc, hcf⟩ := bcell hS; go_simp; try with_reducible rfl); simp only [Act.put, List.setIfInBounds_toArray, List.set_cons_zero, List.set_cons_succ])
                refine SeqO.callv (by rfl) (by rfl) (by rfl) QIn.cfIn (by simp [Act.eval]) (fun w1 hS => EB.out w1 hS) ?_
                simp only [Act.put, List.setIfInBounds_toArray, List.set_cons_zero, List.set_cons_succ]
                iterate 2 (refine SeqO.val (v := ?_) (by rfl) (by rfl) (fun w1 hS => ?_) ?_; rotate_left; (· obtain ⟨hc, hcf⟩ := bcell hS; go_simp; try with_reducible rfl); simp only [Act.put, List.setIfInBounds_toArray, List.set_cons_zero, List.set_cons_succ])
                refine SeqO.nil0 fun w3 hS3 => ?_
                refine Ph.last ?_
                simp only [List.drop_succ_cons, List.drop_zero, List.take_succ_cons, List.take_zero, Nat.reduceSub, Nat.sub_zero]
                refine wpList_nil ?_
                have R := Lib.hid (GO.out w3 hS3 HC.out)
                clear GO HC FA FB EA EB z0 z1 hS3 N2
                go_wp2_with fail
                exact ⟨R.out, by simp [RowKit.intOf]; exact ms⟩
              · have be : (ea == eb) = false := by simpa using hee
                have hd : decide (p.a ∈ out2) ≠ decide (p.b ∈ out2) := by rw [← PC.out.2.2.2.2.1, ← PC.out.2.2.2.2.2]; exact hee
                have hC2 : p.a ∈ C ∧ p.b ∈ C := PAIR.out p HP.out pa pb (by
                  by_cases h1 : p.a ∈ out2
                  · exact .inl (HG.out.s _ h1)
                  · by_cases h2 : p.b ∈ out2
                    · exact .inr (HG.out.s _ h2)
                    · exact absurd (by rw [decide_eq_false h1, decide_eq_false h2]) hd)
                have G3 := Lib.hid (show Good C x0 (withS (withS out2 p.a) p.b) from ⟨with_rise (with_rise HG.out.r), with_mem.2 (.inr (with_mem.2 (.inr HG.out.m))), fun y hy => by
                  rcases with_mem.1 hy with rfl | hy
                  · exact hC2.2
                  · rcases with_mem.1 hy with rfl | hy
                    · exact hC2.1
                    · exact HG.out.s y hy⟩)
                have T3 := Lib.hid (show out.length < (withS (withS out2 p.a) p.b).length from by
                  have h1 := with_two hd
                  cases hb2 : b2 with
                  | true => have := HT.out hb2; omega
                  | false => have e := FO.out hb2; rw [e] at h1; rw [e]; exact h1)
                clear hd hC2 PC SK HG HT HP pa pb FO GO
                refine wp_region_ph [(33, .free [])] (by kernel_rfl) (by kernel_rfl) ?_
                refine Ph.belowd ?_
                simp only [List.drop_succ_cons, List.drop_zero, List.take_succ_cons, List.take_zero, Nat.reduceSub, Nat.sub_zero]
                iterate 6 (refine SeqO.val (v := ?_) (by rfl) (by rfl) (fun w1 hS => ?_) ?_; rotate_left; (· obtain ⟨hc, hcf⟩ := bcell hS; go_simp; try with_reducible rfl); simp only [Act.put, List.setIfInBounds_toArray, List.set_cons_zero, List.set_cons_succ])
                refine SeqO.callv (by rfl) (by rfl) (by rfl) QIn.cfIn (by simp [Act.eval]) (fun w1 hS => FA.out w1 hS) ?_
                simp only [Act.put, List.setIfInBounds_toArray, List.set_cons_zero, List.set_cons_succ]
                iterate 1 (refine SeqO.val (v := ?_) (by rfl) (by rfl) (fun w1 hS => ?_) ?_; rotate_left; (· obtain ⟨hc, hcf⟩ := bcell hS; go_simp; try with_reducible rfl); simp only [Act.put, List.setIfInBounds_toArray, List.set_cons_zero, List.set_cons_succ])
                iterate 6 (refine SeqO.val (v := ?_) (by rfl) (by rfl) (fun w1 hS => ?_) ?_; rotate_left; (· obtain ⟨hc, hcf⟩ := bcell hS; go_simp; try with_reducible rfl); simp only [Act.put, List.setIfInBounds_toArray, List.set_cons_zero, List.set_cons_succ])
                refine SeqO.callv (by rfl) (by rfl) (by rfl) QIn.cfIn (by simp [Act.eval]) (fun w1 hS => FB.out w1 hS) ?_
                simp only [Act.put, List.setIfInBounds_toArray, List.set_cons_zero, List.set_cons_succ]
                iterate 2 (refine SeqO.val (v := ?_) (by rfl) (by rfl) (fun w1 hS => ?_) ?_; rotate_left; (· obtain ⟨hc, hcf⟩ := bcell hS; go_simp; try with_reducible rfl); simp only [Act.put, List.setIfInBounds_toArray, List.set_cons_zero, List.set_cons_succ])
                iterate 6 (refine SeqO.val (v := ?_) (by rfl) (by rfl) (fun w1 hS => ?_) ?_; rotate_left; (· obtain ⟨hc, hcf⟩ := bcell hS; go_simp; try with_reducible rfl); simp only [Act.put, List.setIfInBounds_toArray, List.set_cons_zero, List.set_cons_succ])
                refine SeqO.callv (by rfl) (by rfl) (by rfl) QIn.cfIn (by simp [Act.eval]) (fun w1 hS => EA.out w1 hS) ?_
                simp only [Act.put, List.setIfInBounds_toArray, List.set_cons_zero, List.set_cons_succ]
                iterate 6 (refine SeqO.val (v := ?_) (by rfl) (by rfl) (fun w1 hS => ?_) ?_; rotate_left; (· obtain ⟨hc, hcf⟩ := bcell hS; go_simp; try with_reducible rfl); simp only [Act.put, List.setIfInBounds_toArray, List.set_cons_zero, List.set_cons_succ])
                refine SeqO.callv (by rfl) (by rfl) (by rfl) QIn.cfIn (by simp [Act.eval]) (fun w1 hS => EB.out w1 hS) ?_
                simp only [Act.put, List.setIfInBounds_toArray, List.set_cons_zero, List.set_cons_succ]
                iterate 2 (refine SeqO.val (v := ?_) (by rfl) (by rfl) (fun w1 hS => ?_) ?_; rotate_left; (· obtain ⟨hc, hcf⟩ := bcell hS; go_simp; try with_reducible rfl); simp only [Act.put, List.setIfInBounds_toArray, List.set_cons_zero, List.set_cons_succ])
                refine SeqO.nil0 fun w3 hS3 => ?_
                refine Ph.last ?_
                simp only [List.drop_succ_cons, List.drop_zero, List.take_succ_cons, List.take_zero, Nat.reduceSub, Nat.sub_zero]
                refine wpList_nil ?_
                have hO3 := HO2.out.step hS3
                have hW3 := hW.trans (hS3.mono hW.size)
                have y0 : w3.cell? ⟨b, off + k * 2, none⟩ = some (.int .i64 p.a) := (World.cell?_of_block (hS3.block b hbz)).trans z0
                have y1 : w3.cell? ⟨b, off + k * 2 + 1, none⟩ = some (.int .i64 p.b) := (World.cell?_of_block (hS3.block b hbz)).trans z1
                have hbz3 := Nat.lt_of_lt_of_le hbz hS3.size
                have l5 : out2.length ≤ 5000 := by have := N2.out; omega
                have W1 := Lib.hid (fun w4 (hS : Below w3.heap.size w3 w4) => (show RetK Try.prog 35 #[.slice A2 n2 c2, .int .i64 p.a] w4 (KO w.heap.size (withS out2 p.a)) from withC p.a w4 (hO3.step hS) (Nat.le_trans hW3.size hS.size) l5))
                have l6 : (withS out2 p.a).length ≤ 5000 := by rw [with_len]; split <;> (have := N2.out; omega)
                clear FA FB EA EB z0 z1 hS3 hbz hO3 HO2
                iterate 7 go_step
                refine wp_region_ph [(12, .free [6])] (by kernel_rfl) (by kernel_rfl) ?_
                refine Ph.gend [(6, KO w.heap.size (withS out2 p.a))] (by rfl) ?_
                simp only [List.drop_succ_cons, List.drop_zero, List.take_succ_cons, List.take_zero, Nat.reduceSub, Nat.sub_zero]
                iterate 6 (refine SeqO.valG (v := ?_) (by rfl) (by rfl) (fun w1 hS => ?_) ?_; rotate_left; (· obtain ⟨hc, hcf⟩ := bcell hS; go_simp; try with_reducible rfl); simp only [Act.put, List.setIfInBounds_toArray, List.set_cons_zero, List.set_cons_succ])
                refine SeqO.callG (KO w.heap.size (withS out2 p.a)) (by rfl) (by simp) (by rfl) (by rfl) cfWt (by simp [Act.eval] <;> rfl) (fun w1 hS => W1.out w1 hS) ?_
                iterate 5 (refine SeqO.valG (v := ?_) (by rfl) (by rfl) (fun w1 hS => ?_) ?_; rotate_left; (· obtain ⟨hc, hcf⟩ := bcell hS; go_simp; try with_reducible rfl); simp only [Act.put, List.setIfInBounds_toArray, List.set_cons_zero, List.set_cons_succ])
                refine SeqO.nilG (by rfl) fun u w4 hS4 hK => ?_
                have hO4 := hK _ (List.mem_cons_self ..)
                clear hK
                replace hO4 : OwnV w4 w.heap.size 3 (u 6) ((withS out2 p.a).map (.int .i64)) := hO4
                have hW4 := hW3.trans (hS4.mono hW3.size)
                refine Ph.last ?_
                simp only [List.drop_succ_cons, List.drop_zero, List.take_succ_cons, List.take_zero, Nat.reduceSub, Nat.sub_zero]
                simp only [List.nil_append, List.cons_append, List.foldl_cons, List.foldl_nil, Act.put, List.setIfInBounds_toArray, List.set_cons_zero, List.set_cons_succ]
                revert hO4
                generalize u 6 = v4
                intro hO4
                clear W1 y0 y1 hbz3 hS4 hW3
                with_reducible refine wpL_call (ca := ?_) (args := ?_) ?_ ?_ cfWt ?_ ?_
                rotate_left 2
                · kernel_rfl
                · rfl
                · simp [Act.eval] <;> rfl
                refine (withC p.b w4 hO4 hW4.size l6).mono ?_
                rintro e w5 ⟨v5, rfl, hO5, hS5⟩
                refine ⟨_, rfl, ?_⟩
                conv => arg 5; simp only [Act.put, List.setIfInBounds_toArray, List.set_cons_zero, List.set_cons_succ]
                iterate 1 (with_reducible refine wpL_val (v := ?_) ?_ ?_ ?_; rotate_left; (· kernel_rfl); (· go_simp; try with_reducible rfl); conv => arg 5; simp only [Act.put, List.setIfInBounds_toArray, List.set_cons_zero, List.set_cons_succ])
                refine wpList_nil ?_
                have hW5 := hW4.trans (hS5.mono hW4.size)
                clear hO4 hW4 hS5
                go_wp2_with fail
                exact ⟨⟨k + 1, _, true, by omega, by simp, rfl, hO5, G3.out, fun h => (by cases h), fun _ => T3.out, hW5⟩, by simp [RowKit.intOf]; exact ms⟩
        · obtain rfl : k = n := by omega
          have t3 : decide ((k : Int) < (k : Int)) = false := decide_eq_false (by omega)
          have hlk : l.take k = l := List.take_of_length_le (by have := LN.out; omega)
          rw [hlk] at hF
          have hL2 := own_len hO
          rw [List.length_map] at hL2
          have g2 := GL.out out2 hG
          have g0 := GL.out out hG0.out
          have fin : (∃ (out_1 : List Int) (b : Bool), Value.bool b2 = .bool b ∧ OwnV wr w.heap.size 3 u7 (out_1.map (.int .i64)) ∧ Good C x0 out_1 ∧ (b = false → ∀ p ∈ l, cl fx out_1 p) ∧ Below w.heap.size w wr) := ⟨out2, b2, rfl, hO, hG, fun h => by obtain ⟨h1, h2⟩ := hF h; rw [h1]; exact h2, hW⟩
          have FIN := Lib.hid fin
          have ms : flag (.bool b2) = 0 ∧ out2.length = out.length ∨ flag (.bool b2) = 1 ∧ out.length < out2.length := by
            cases b2 with
            | true => exact .inr ⟨rfl, hT rfl⟩
            | false => exact .inl ⟨rfl, by rw [(hF rfl).1]⟩
          have f1 : flag (.bool true) = 1 := rfl
          clear fin hF hT hO hG hlk hW
          go_wp2_with fail
          exact ⟨FIN.out, by omega⟩
end QId
end Go.Proofs.Ytocelepohkbooaa
