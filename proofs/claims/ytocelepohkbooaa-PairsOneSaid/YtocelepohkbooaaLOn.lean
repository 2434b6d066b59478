/- Each number that is not fixed and stands in a pair is in just one island ..: the walk. No condition. -/
import Derived.Test.YtocelepohkbooaaQAw
import Derived.Test.YtocelepohkbooaaQIl
namespace Go.Proofs.Ytocelepohkbooaa
set_option linter.unusedVariables false
set_option linter.unusedSimpArgs false
open Go.RowKit Go.NP
namespace LOn
open QCk QDg QAw QVl QIs QIc QIn QPl QIp QIl
theorem cfPl (args : Array Value) (w1 : World) : (callFunc 19 args).run Try.prog w1 = .ok (.enter 19 args) w1 := enters Try.func19 (by kernel_rfl) (by kernel_rfl) args w1
set_option maxRecDepth 100000 in
set_option maxHeartbeats 8000000 in
theorem lawC {A B : Option Addr} {n m : Nat} (c d : Nat) {l : List Pr} {fx : List Int} (w : World) (h : SlD w A n c l) (hx : SlV w B m (fx.map (.int .i64))) (hw : ∀ x ∈ fx, QVm.wfI x) : RetB Try.prog 7 #[.slice A n c, .slice B m d] w (.bool true) := by
  have hln := h.1.1
  by_cases hn : 100 < n
  · have t1 : decide ((n : Int) > 100) = true := decide_eq_true (by omega)
    clear h hx hw
    go_enter Try.func7, Try.ntmps7
    go_wp2_with fail
    refine (awakeC w).mono ?_
    rintro e w1 ⟨rfl, hS1⟩
    go_wp2_with fail
    go_ret
    exact ⟨rfl, hS1⟩
  have t1 : decide ((n : Int) > 100) = false := decide_eq_false (by omega)
  by_cases hm : 100 < m
  · have t2 : decide ((m : Int) > 100) = true := decide_eq_true (by omega)
    clear h hx hw
    go_enter Try.func7, Try.ntmps7
    go_wp2_with fail
    refine (awakeC w).mono ?_
    rintro e w1 ⟨rfl, hS1⟩
    go_wp2_with fail
    go_ret
    exact ⟨rfl, hS1⟩
  have t2 : decide ((m : Int) > 100) = false := decide_eq_false (by omega)
  have HI := Lib.hid (islC c d w h.1 hx hw (by omega) (by omega))
  by_cases hf : fineS l = 0
  · obtain ⟨L, hL⟩ : ∃ x, islS fx l = x := ⟨_, rfl⟩
    have hA : islA fx l = L := by unfold islA; rw [if_pos hf, hL]
    have hok := (fineS_ok hf).2
    have HP := Lib.hid (fun p (hp : p ∈ l) => pair_ok (fx := fx) hok hp)
    have HR := Lib.hid (isl_rise (fx := fx) (l := l))
    have HS := Lib.hid (isl_short (fx := fx) (l := l))
    rw [hL] at HP HR HS
    obtain ⟨nl, hnl⟩ : ∃ x, L.length = x := ⟨_, rfl⟩
    have hn2 : nl ≤ 4097 := by rw [← hnl]; exact HS.out.1
    rw [hA] at HI
    rw [hf] at HI
    have H := Lib.hid h; have HX := Lib.hid hx; have NL := Lib.hid hnl
    clear h hx hw hf hL hA hok hnl
    go_enter Try.func7, Try.ntmps7
    go_wp2_with fail
    refine HI.out.mono ?_
    rintro e w1 ⟨u, rfl, hu, hS1⟩
    obtain ⟨A1, c1, e1, hs1⟩ := QPl.OwnVV.sl hu
    rw [NL.out] at e1 hs1
    subst e1
    have SL := Lib.hid hs1
    clear HI hu hs1
    go_wp2_with fail
    go_loopw [7] (fun i wr => ∃ k : Nat, k ≤ n ∧ i = .int .i64 (k : Int) ∧ Below w1.heap.size w1 wr) (fun i _ => n - (RowKit.intOf i).toNat)
    case atStart => exact ⟨0, by omega, rfl, Below.refl _ _⟩
    case round =>
      obtain ⟨k, hk, rfl, hW⟩ := hrel
      by_cases hlt : k < n
      · obtain ⟨p, hp⟩ : ∃ p, l[k]? = some p := ⟨_, List.getElem?_eq_getElem (by omega)⟩
        obtain ⟨b, off, rfl, hb0, hsA⟩ := H.out.1.2 (by omega)
        have W0 := hS1.trans (hW.mono hS1.size)
        have at1 := hsA.step hb0 W0 _ _ hp
        have z0 := at1 0 _ rfl; have z1 := at1 1 _ rfl
        simp only [Nat.add_zero] at z0
        have hbz : b < wr.heap.size := Nat.lt_of_lt_of_le hb0 W0.size
        have t3 : decide ((k : Int) < (n : Int)) = true := decide_eq_true (by omega)
        have k0 : 0 ≤ (k : Int) ∧ (k : Int) < n := by omega
        have PO := Lib.hid (HP.out p (List.mem_of_getElem? hp))
        have hs2 := SL.out.step hW
        have hx2 := HX.out.step W0
        obtain ⟨xa, hxa⟩ : ∃ x, place L p.a = x := ⟨_, rfl⟩
        obtain ⟨xb, hxb⟩ : ∃ x, place L p.b = x := ⟨_, rfl⟩
        obtain ⟨ba, hba⟩ : ∃ x, decide (p.a ∈ fx) = x := ⟨_, rfl⟩
        obtain ⟨bb, hbb⟩ : ∃ x, decide (p.b ∈ fx) = x := ⟨_, rfl⟩
        have OA := Lib.hid (fun w1 (hS : Below wr.heap.size wr w1) => (show RetB Try.prog 19 #[.slice A1 nl c1, .int .i64 p.a] w1 (.int .i64 xa) from by rw [← hxa]; exact placeC c1 p.a w1 (hs2.step hS) (by omega) (fun g hg => by have := HS.out.2 g hg; omega)))
        have OB := Lib.hid (fun w1 (hS : Below wr.heap.size wr w1) => (show RetB Try.prog 19 #[.slice A1 nl c1, .int .i64 p.b] w1 (.int .i64 xb) from by rw [← hxb]; exact placeC c1 p.b w1 (hs2.step hS) (by omega) (fun g hg => by have := HS.out.2 g hg; omega)))
        have IA := Lib.hid (fun w1 (hS : Below wr.heap.size wr w1) => (show RetB Try.prog 20 #[.slice B m d, .int .i64 p.a] w1 (.bool ba) from by rw [← hba]; exact inC d p.a w1 (hx2.step hS) (by omega)))
        have IB := Lib.hid (fun w1 (hS : Below wr.heap.size wr w1) => (show RetB Try.prog 20 #[.slice B m d, .int .i64 p.b] w1 (.bool bb) from by rw [← hbb]; exact inC d p.b w1 (hx2.step hS) (by omega)))
        have PC := Lib.hid (show (ba = true ∧ xa = -1 ∨ ba = false ∧ 0 ≤ xa) ∧ (bb = true ∧ xb = -1 ∨ bb = false ∧ 0 ≤ xb) ∧ (ba = false → bb = false → xa = xb) from by
          rw [← hxa, ← hxb, ← hba, ← hbb]
          simp only [decide_eq_true_eq, decide_eq_false_iff_not]
          exact PO.out)
        clear hsA hp at1 hs2 hx2 hxa hxb hba hbb PO hb0 W0
        iterate 4 go_step
        iterate 4 (with_reducible refine wpL_val (v := ?_) ?_ ?_ ?_; rotate_left; (· kernel_rfl); (· go_simp; try with_reducible rfl); conv => arg 5; simp only [Act.put, List.setIfInBounds_toArray, List.set_cons_zero, List.set_cons_succ])
        refine wpList_nil ?_
        iterate 9 go_step
        refine wp_region_ph [(16, .free [])] (by kernel_rfl) (by kernel_rfl) ?_
        refine Ph.belowd ?_
        simp only [List.drop_succ_cons, List.drop_zero, List.take_succ_cons, List.take_zero, Nat.reduceSub, Nat.sub_zero]
        iterate 6 (refine SeqO.val (v := ?_) (by rfl) (by rfl) (fun w1 hS => ?_) ?_; rotate_left; (· obtain ⟨hc, hcf⟩ := bcell hS; go_simp; try with_reducible rfl); simp only [Act.put, List.setIfInBounds_toArray, List.set_cons_zero, List.set_cons_succ])
        refine SeqO.callv (by rfl) (by rfl) (by rfl) cfPl (by simp [Act.eval]) (fun w1 hS => OA.out w1 hS) ?_
        simp only [Act.put, List.setIfInBounds_toArray, List.set_cons_zero, List.set_cons_succ]
        iterate 6 (refine SeqO.val (v := ?_) (by rfl) (by rfl) (fun w1 hS => ?_) ?_; rotate_left; (· obtain ⟨hc, hcf⟩ := bcell hS; go_simp; try with_reducible rfl); simp only [Act.put, List.setIfInBounds_toArray, List.set_cons_zero, List.set_cons_succ])
        refine SeqO.callv (by rfl) (by rfl) (by rfl) cfPl (by simp [Act.eval]) (fun w1 hS => OB.out w1 hS) ?_
        simp only [Act.put, List.setIfInBounds_toArray, List.set_cons_zero, List.set_cons_succ]
        iterate 2 (refine SeqO.val (v := ?_) (by rfl) (by rfl) (fun w1 hS => ?_) ?_; rotate_left; (· obtain ⟨hc, hcf⟩ := bcell hS; go_simp; try with_reducible rfl); simp only [Act.put, List.setIfInBounds_toArray, List.set_cons_zero, List.set_cons_succ])
        refine SeqO.nil0 fun w3 hS3 => ?_
        refine Ph.last ?_
        simp only [List.drop_succ_cons, List.drop_zero, List.take_succ_cons, List.take_zero, Nat.reduceSub, Nat.sub_zero]
        have hW3 := hW.trans (hS3.mono hW.size)
        replace IA := Lib.hid (fun w1 (hS : Below w3.heap.size w3 w1) => IA.out w1 (hS3.trans (hS.mono hS3.size)))
        replace IB := Lib.hid (fun w1 (hS : Below w3.heap.size w3 w1) => IB.out w1 (hS3.trans (hS.mono hS3.size)))
        have hbz3 := Nat.lt_of_lt_of_le hbz hS3.size
        have y0 : w3.cell? ⟨b, off + k * 2, none⟩ = some (.int .i64 p.a) := (World.cell?_of_block (hS3.block b hbz)).trans z0
        have y1 : w3.cell? ⟨b, off + k * 2 + 1, none⟩ = some (.int .i64 p.b) := (World.cell?_of_block (hS3.block b hbz)).trans z1
        refine wpList_nil ?_
        clear OA OB hW z0 z1 hS3 hbz
        iterate 3 go_step
        refine wp_region_ph [(16, .free [])] (by kernel_rfl) (by kernel_rfl) ?_
        refine Ph.belowd ?_
        simp only [List.drop_succ_cons, List.drop_zero, List.take_succ_cons, List.take_zero, Nat.reduceSub, Nat.sub_zero]
        iterate 6 (refine SeqO.val (v := ?_) (by rfl) (by rfl) (fun w1 hS => ?_) ?_; rotate_left; (· obtain ⟨hc, hcf⟩ := bcell hS; go_simp; try with_reducible rfl); simp only [Act.put, List.setIfInBounds_toArray, List.set_cons_zero, List.set_cons_succ])
        refine SeqO.callv (by rfl) (by rfl) (by rfl) cfIn (by simp [Act.eval]) (fun w1 hS => IA.out w1 hS) ?_
        simp only [Act.put, List.setIfInBounds_toArray, List.set_cons_zero, List.set_cons_succ]
        iterate 6 (refine SeqO.val (v := ?_) (by rfl) (by rfl) (fun w1 hS => ?_) ?_; rotate_left; (· obtain ⟨hc, hcf⟩ := bcell hS; go_simp; try with_reducible rfl); simp only [Act.put, List.setIfInBounds_toArray, List.set_cons_zero, List.set_cons_succ])
        refine SeqO.callv (by rfl) (by rfl) (by rfl) cfIn (by simp [Act.eval]) (fun w1 hS => IB.out w1 hS) ?_
        simp only [Act.put, List.setIfInBounds_toArray, List.set_cons_zero, List.set_cons_succ]
        iterate 2 (refine SeqO.val (v := ?_) (by rfl) (by rfl) (fun w1 hS => ?_) ?_; rotate_left; (· obtain ⟨hc, hcf⟩ := bcell hS; go_simp; try with_reducible rfl); simp only [Act.put, List.setIfInBounds_toArray, List.set_cons_zero, List.set_cons_succ])
        refine SeqO.nil0 fun w4 hS4 => ?_
        refine Ph.last ?_
        simp only [List.drop_succ_cons, List.drop_zero, List.take_succ_cons, List.take_zero, Nat.reduceSub, Nat.sub_zero]
        have hW4 := hW3.trans (hS4.mono hW3.size)
        refine wpList_nil ?_
        clear IA IB hW3 y0 y1 hS4 hbz3
        obtain ⟨P1, P2, P3⟩ := PC.out
        clear PC
        have fin : ∃ k_1 : Nat, k_1 ≤ n ∧ Value.int .i64 ((k : Int) + 1) = .int .i64 (k_1 : Int) ∧ Below w1.heap.size w1 w4 := ⟨k + 1, by omega, by simp, hW4⟩
        have FIN := Lib.hid fin
        have hlt2 : n - (k + 1) < n - k := by omega
        clear fin hW4 HP HR HS NL SL H HX
        rcases P1 with ⟨rfl, rfl⟩ | ⟨rfl, q1⟩
        · rcases P2 with ⟨rfl, rfl⟩ | ⟨rfl, q2⟩
          · clear P3
            go_wp2_with fail
            exact ⟨FIN.out, by simp [RowKit.intOf]; omega⟩
          · have r2 : decide (0 ≤ xb) = true := decide_eq_true q2
            have r3 : (xb == -2) = false := by simp only [beq_eq_false_iff_ne, ne_eq]; omega
            clear P3
            go_wp2_with fail
            exact ⟨FIN.out, by simp [RowKit.intOf]; omega⟩
        · have q2' : decide (0 ≤ xa) = true := decide_eq_true q1
          have q3 : (xa == -2) = false := by simp only [beq_eq_false_iff_ne, ne_eq]; omega
          rcases P2 with ⟨rfl, rfl⟩ | ⟨rfl, q2⟩
          · clear P3
            go_wp2_with fail
            exact ⟨FIN.out, by simp [RowKit.intOf]; omega⟩
          · obtain rfl := P3 rfl rfl
            have q4 : (xa != xa) = false := by simp
            clear P3
            go_wp2_with fail
            exact ⟨FIN.out, by simp [RowKit.intOf]; omega⟩
      · obtain rfl : k = n := by omega
        have t3 : decide ((k : Int) < (k : Int)) = false := decide_eq_false (by omega)
        obtain ⟨wa, hwa⟩ : ∃ x, x = wr := ⟨_, rfl⟩
        subst hwa
        have SL := Lib.hid (SL.out.step hW)
        have hWa := hS1.trans (hW.mono hS1.size)
        clear hW H HX HP
        go_wp2_with fail
        go_loopw [12] (fun i w2 => ∃ k : Nat, k ≤ nl ∧ i = .int .i64 (k : Int) ∧ Below wa.heap.size wa w2) (fun i _ => nl - (RowKit.intOf i).toNat)
        case atStart => exact ⟨0, by omega, rfl, Below.refl _ _⟩
        case round =>
          obtain ⟨i, hi, rfl, hW⟩ := hrel
          by_cases hil : i < nl
          · obtain ⟨g, hg⟩ : ∃ g, L[i]? = some g := ⟨_, List.getElem?_eq_getElem (by have := NL.out; omega)⟩
            have hgr := HR.out g (List.mem_of_getElem? hg)
            have hgl := HS.out.2 g (List.mem_of_getElem? hg)
            obtain ⟨b, off, rfl, hb0, hsA⟩ := (SL.out.step hW).2 (by omega)
            obtain ⟨A', c', z0, hz⟩ := hsA i g hg
            have t4 : decide ((i : Int) < (nl : Int)) = true := decide_eq_true (by omega)
            have i0 : 0 ≤ (i : Int) ∧ (i : Int) < nl := by omega
            obtain ⟨wb, hwb⟩ : ∃ x, x = wr := ⟨_, rfl⟩
            subst hwb
            have HZ := Lib.hid hz; have HGR := Lib.hid hgr
            clear hsA hg hz hgr HR HS NL SL
            go_wp2_with fail
            go_loopw [13] (fun v w2 => ∃ q : Nat, (q + 1 ≤ g.length ∨ q = 0) ∧ v = .int .i64 ((q : Int) + 1) ∧ Below wb.heap.size wb w2) (fun v _ => g.length - (RowKit.intOf v).toNat)
            case atStart => exact ⟨0, by omega, by simp, Below.refl _ _⟩
            case round =>
              obtain ⟨q, hq, rfl, hV⟩ := hrel
              have z2 := (World.cell?_of_block (hV.block b hb0)).trans z0
              have hbz := Nat.lt_of_lt_of_le hb0 hV.size
              by_cases hql : q + 1 < g.length
              · obtain ⟨x0, hx0⟩ : ∃ x, g[q]? = some x := ⟨_, List.getElem?_eq_getElem (by omega)⟩
                obtain ⟨x1, hx1⟩ : ∃ x, g[q + 1]? = some x := ⟨_, List.getElem?_eq_getElem hql⟩
                have hlt : x0 < x1 := by
                  have h1 := get_lt hx0; have h2 := get_lt hx1
                  rw [List.getElem?_eq_getElem h1] at hx0; rw [List.getElem?_eq_getElem h2] at hx1
                  rw [← Option.some.inj hx0, ← Option.some.inj hx1]
                  exact List.pairwise_iff_getElem.1 HGR.out q (q + 1) h1 h2 (by omega)
                obtain ⟨b3, off3, rfl, hb3, hc3⟩ := (HZ.out.step hV).2 (by omega)
                have c0 := hc3 q (.int .i64 x0) (by rw [List.getElem?_map, hx0]; rfl)
                have c1 := hc3 (q + 1) (.int .i64 x1) (by rw [List.getElem?_map, hx1]; rfl)
                have t5 : decide ((q : Int) + 1 < (g.length : Int)) = true := decide_eq_true (by omega)
                have q0 : 0 ≤ (q : Int) ∧ (q : Int) < g.length ∧ 0 ≤ (q : Int) + 1 ∧ (q : Int) + 1 < g.length := by omega
                have lt2 : decide (x1 ≤ x0) = false := decide_eq_false (by omega)
                have r0 : 0 ≤ (q : Int) ∧ (q : Int) ≤ 99999 ∧ 0 ≤ (q : Int) + 1 + 1 ∧ (q : Int) + 1 + 1 ≤ 99999 := by omega
                have ms : g.length - (q + 1 + 1) < g.length - (q + 1) := by omega
                have v1 : IntKind.i64.wrap (q : Int) = q := QCm.wrapS r0.1 r0.2.1
                have v2 : wrap64 (q : Int) = q := QCm.wrapS' r0.1 r0.2.1
                have v3 : IntKind.i64.wrap ((q : Int) + 1 + 1) = (q : Int) + 1 + 1 := QCm.wrapS r0.2.2.1 r0.2.2.2
                have v4 : wrap64 ((q : Int) + 1 + 1) = (q : Int) + 1 + 1 := QCm.wrapS' r0.2.2.1 r0.2.2.2
                have hq2 : q + 1 + 1 ≤ g.length ∨ q + 1 = 0 := by clear v1 v2 v3 v4; omega
                clear hc3 hx0 hx1 r0 hlt HZ HGR
                iterate 4 go_step
                iterate 7 (with_reducible refine wpL_val (v := ?_) ?_ ?_ ?_; rotate_left; (· kernel_rfl); (· go_simp; try with_reducible rfl); conv => arg 5; simp only [Act.put, List.setIfInBounds_toArray, List.set_cons_zero, List.set_cons_succ])
                refine wpList_nil ?_
                iterate 9 go_step
                have hbz3 := hb3
                refine wp_region_ph [(16, .free [])] (by kernel_rfl) (by kernel_rfl) ?_
                refine Ph.belowd ?_
                simp only [List.drop_succ_cons, List.drop_zero, List.take_succ_cons, List.take_zero, Nat.reduceSub, Nat.sub_zero]
                iterate 16 (refine SeqO.val (v := ?_) (by rfl) (by rfl) (fun w1 hS => ?_) ?_; rotate_left; (· obtain ⟨hc, hcf⟩ := bcell hS; go_simp; try with_reducible rfl); simp only [Act.put, List.setIfInBounds_toArray, List.set_cons_zero, List.set_cons_succ])
                refine SeqO.nil0 fun w3 hS3 => ?_
                refine Ph.last ?_
                simp only [List.drop_succ_cons, List.drop_zero, List.take_succ_cons, List.take_zero, Nat.reduceSub, Nat.sub_zero]
                have hV3 := hV.trans (hS3.mono hV.size)
                refine wpList_nil ?_
                clear c0 c1 z2 hS3 hV v1 v2
                go_wp2_with fail
                exact ⟨⟨q + 1, hq2, by simp, hV3⟩, by simp [RowKit.intOf]; exact ms⟩
              · have t5 : decide ((q : Int) + 1 < (g.length : Int)) = false := decide_eq_false (by omega)
                have hW2 := hW.trans (hV.mono hW.size)
                clear HZ HGR
                go_wp2_with fail
                exact ⟨⟨i + 1, by omega, by simp, hW2⟩, by simp [RowKit.intOf]; omega⟩
          · obtain rfl : i = nl := by omega
            have t4 : decide ((i : Int) < (i : Int)) = false := decide_eq_false (by omega)
            have hW2 := hWa.trans (hW.mono hWa.size)
            go_wp2_with fail
            refine (awakeC wr).mono ?_
            rintro e w5 ⟨rfl, hS5⟩
            go_wp2_with fail
            go_ret
            exact ⟨rfl, hW2.trans (hS5.mono hW2.size)⟩
  · have hA : islA fx l = [] := if_neg hf
    rw [hA] at HI
    have x1 : (fineS l != 0) = true := by simpa using hf
    clear h hx hw hf hA
    go_enter Try.func7, Try.ntmps7
    go_wp2_with fail
    refine HI.out.mono ?_
    rintro e w1 ⟨u, rfl, hu, hS1⟩
    obtain ⟨A1, c1, rfl, _⟩ := QPl.OwnVV.sl hu
    clear hu HI
    rw [List.length_nil]
    go_wp2_with fail
    refine (awakeC w1).mono ?_
    rintro e w2 ⟨rfl, hS2⟩
    go_wp2_with fail
    go_ret
    exact ⟨rfl, hS1.trans (hS2.mono hS1.size)⟩
end LOn
end Go.Proofs.Ytocelepohkbooaa
