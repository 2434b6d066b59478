/- The islands of any pairs, whatever numbers are fixed, are the document's, or refused: the walk. No condition. -/
import Derived.Test.YtocelepohkbooaaQAw
import Derived.Test.YtocelepohkbooaaQRi
namespace Go.Proofs.Ytocelepohkbooaa
set_option linter.unusedVariables false
set_option linter.unusedSimpArgs false
open Go.RowKit Go.NP
namespace LIs
open QCk QDg QAw QVl QIs QIc QIn QPl QIp QIl QRi
theorem cfSm (args : Array Value) (w1 : World) : (callFunc 18 args).run Try.prog w1 = .ok (.enter 18 args) w1 := enters Try.func18 (by kernel_rfl) (by kernel_rfl) args w1
set_option maxRecDepth 100000 in
set_option maxHeartbeats 2000000 in
theorem sameIC {A B : Option Addr} {n : Nat} (c d : Nat) {l : List Int} (w : World) (h : SlV w A n (l.map (.int .i64))) (hk : SlV w B n (l.map (.int .i64))) (hi : n ≤ 1000000) : RetB Try.prog 18 #[.slice A n c, .slice B n d] w (.bool true) := by
  have hln : l.length = n := by have := h.1; simpa using this
  have H := Lib.hid h; have HK := Lib.hid hk
  clear h hk
  have t0 : ((n : Int) != (n : Int)) = false := by simp
  go_enter Try.func18, Try.ntmps18
  go_wp2_with fail
  go_loopw [5] (fun i wr => ∃ k : Nat, k ≤ n ∧ i = .int .i64 (k : Int) ∧ Below w.heap.size w wr) (fun i _ => n - (RowKit.intOf i).toNat)
  case atStart => exact ⟨0, by omega, rfl, Below.refl _ _⟩
  case round =>
    obtain ⟨k, hk, rfl, hW⟩ := hrel
    by_cases hlt : k < n
    · obtain ⟨y, hy⟩ : ∃ y, l[k]? = some y := ⟨_, List.getElem?_eq_getElem (by omega)⟩
      obtain ⟨b, off, rfl, hb, hat⟩ := (H.out.step hW).2 (by omega)
      obtain ⟨b2, off2, rfl, hb2, hat2⟩ := (HK.out.step hW).2 (by omega)
      have z0 := hat k (.int .i64 y) (by rw [List.getElem?_map, hy]; rfl)
      have z1 := hat2 k (.int .i64 y) (by rw [List.getElem?_map, hy]; rfl)
      have t1 : decide ((k : Int) < (n : Int)) = true := decide_eq_true (by omega)
      have k0 : 0 ≤ (k : Int) ∧ (k : Int) < n := by omega
      have e1 : (y != y) = false := by simp
      have ms : n - (k + 1) < n - k := by omega
      clear hy hat hat2
      iterate 4 go_step
      iterate 4 (with_reducible refine wpL_val (v := ?_) ?_ ?_ ?_; rotate_left; (· kernel_rfl); (· go_simp; try with_reducible rfl); conv => arg 5; simp only [Act.put, List.setIfInBounds_toArray, List.set_cons_zero, List.set_cons_succ])
      refine wpList_nil ?_
      iterate 9 go_step
      refine wp_region_ph [(9, .free [])] (by kernel_rfl) (by kernel_rfl) ?_
      refine Ph.belowd ?_
      simp only [List.drop_succ_cons, List.drop_zero, List.take_succ_cons, List.take_zero, Nat.reduceSub, Nat.sub_zero]
      iterate 9 (refine SeqO.val (v := ?_) (by rfl) (by rfl) (fun w1 hS => ?_) ?_; rotate_left; (· obtain ⟨hc, hcf⟩ := bcell hS; go_simp; try with_reducible rfl); simp only [Act.put, List.setIfInBounds_toArray, List.set_cons_zero, List.set_cons_succ])
      refine SeqO.nil0 fun w3 hS3 => ?_
      refine Ph.last ?_
      simp only [List.drop_succ_cons, List.drop_zero, List.take_succ_cons, List.take_zero, Nat.reduceSub, Nat.sub_zero]
      have hW3 := hW.trans (hS3.mono hW.size)
      refine wpList_nil ?_
      clear z0 z1 hW hS3
      go_wp2_with fail
      exact ⟨⟨k + 1, by omega, by simp, hW3⟩, by simp [RowKit.intOf]; exact ms⟩
    · have t1 : decide ((k : Int) < (n : Int)) = false := decide_eq_false (by omega)
      go_wp2_with fail
      go_ret
      exact ⟨rfl, hW⟩
set_option maxRecDepth 100000 in
set_option maxHeartbeats 8000000 in
theorem lawC {A B : Option Addr} {n m : Nat} (c d : Nat) {l : List Pr} {fx : List Int} (w : World) (h : SlD w A n c l) (hx : SlV w B m (fx.map (.int .i64))) (hw : ∀ x ∈ fx, QVm.wfI x) : RetB Try.prog 5 #[.slice A n c, .slice B m d] w (.bool true) := by
  by_cases hn : 100 < n
  · have t1 : decide ((n : Int) > 100) = true := decide_eq_true (by omega)
    clear h hx hw
    go_enter Try.func5, Try.ntmps5
    go_wp2_with fail
    refine (awakeC w).mono ?_
    rintro e w1 ⟨rfl, hS1⟩
    go_wp2_with fail
    go_ret
    exact ⟨rfl, hS1⟩
  have t1 : decide ((n : Int) > 100) = false := decide_eq_false (by omega)
  by_cases hm : 100 < m
  · have t2 : decide ((m : Int) > 100) = true := decide_eq_true (by omega)
    clear h hx hw
    go_enter Try.func5, Try.ntmps5
    go_wp2_with fail
    refine (awakeC w).mono ?_
    rintro e w1 ⟨rfl, hS1⟩
    go_wp2_with fail
    go_ret
    exact ⟨rfl, hS1⟩
  have t2 : decide ((m : Int) > 100) = false := decide_eq_false (by omega)
  have HI := Lib.hid (islC c d w h.1 hx hw (by omega) (by omega))
  have HR := Lib.hid (fun w1 (hS : Below w.heap.size w w1) => risC c d w1 (h.1.step hS) (hx.step hS) (by omega) (by omega))
  obtain ⟨L, hL⟩ : ∃ x, islA fx l = x := ⟨_, rfl⟩
  obtain ⟨er, her⟩ : ∃ x, fineS l = x := ⟨_, rfl⟩
  have HS := Lib.hid (show L.length ≤ 4097 ∧ ∀ g ∈ L, g.length ≤ 4097 from by
    rw [← hL]
    unfold islA
    split
    · exact isl_short
    · exact ⟨by simp, fun g hg => (by cases hg)⟩)
  rw [hL, her] at HI HR
  obtain ⟨nl, hnl⟩ : ∃ x, L.length = x := ⟨_, rfl⟩
  have hn2 : nl ≤ 4097 := by rw [← hnl]; exact HS.out.1
  have NL := Lib.hid hnl
  clear h hx hw hL her hnl
  go_enter Try.func5, Try.ntmps5
  go_wp2_with fail
  refine HI.out.mono ?_
  rintro e w1 ⟨u, rfl, hu, hS1⟩
  go_wp2_with fail
  refine (HR.out w1 hS1).mono ?_
  rintro e w2 ⟨v, rfl, hv, hS2⟩
  have hW2 := hS1.trans (hS2.mono hS1.size)
  obtain ⟨A1, c1, e1, hs1⟩ := QPl.OwnVV.sl hu
  obtain ⟨A2, c2, e2, hs2⟩ := QPl.OwnVV.sl hv
  rw [NL.out] at e1 hs1 e2 hs2
  subst e1
  subst e2
  have S1 := Lib.hid (hs1.step hS2); have S2 := Lib.hid hs2
  have x1 : ((nl : Int) != (nl : Int)) = false := by simp
  have x2 : (er != er) = false := by simp
  clear HI HR hu hv hs1 hs2 hS1 hS2
  go_wp2_with fail
  go_loopw [9] (fun i wr => ∃ k : Nat, k ≤ nl ∧ i = .int .i64 (k : Int) ∧ Below w2.heap.size w2 wr) (fun i _ => nl - (RowKit.intOf i).toNat)
  case atStart => exact ⟨0, by omega, rfl, Below.refl _ _⟩
  case round =>
    obtain ⟨i, hi, rfl, hW⟩ := hrel
    by_cases hil : i < nl
    · obtain ⟨g, hg⟩ : ∃ g, L[i]? = some g := ⟨_, List.getElem?_eq_getElem (by have := NL.out; omega)⟩
      have hgl := HS.out.2 g (List.mem_of_getElem? hg)
      obtain ⟨b, off, rfl, hb, hsA⟩ := (S1.out.step hW).2 (by omega)
      obtain ⟨b2, off2, rfl, hb2, hsB⟩ := (S2.out.step hW).2 (by omega)
      obtain ⟨A3, c3, z0, hz0⟩ := hsA i g hg
      obtain ⟨A4, c4, z1, hz1⟩ := hsB i g hg
      have t4 : decide ((i : Int) < (nl : Int)) = true := decide_eq_true (by omega)
      have i0 : 0 ≤ (i : Int) ∧ (i : Int) < nl := by omega
      have O := Lib.hid (fun w1 (hS : Below wr.heap.size wr w1) => sameIC c3 c4 w1 (hz0.step hS) (hz1.step hS) (by omega))
      have ms : nl - (i + 1) < nl - i := by omega
      clear hsA hsB hg hz0 hz1
      iterate 4 go_step
      iterate 4 (with_reducible refine wpL_val (v := ?_) ?_ ?_ ?_; rotate_left; (· kernel_rfl); (· go_simp; try with_reducible rfl); conv => arg 5; simp only [Act.put, List.setIfInBounds_toArray, List.set_cons_zero, List.set_cons_succ])
      refine wpList_nil ?_
      iterate 9 go_step
      refine wp_region_ph [(10, .free [])] (by kernel_rfl) (by kernel_rfl) ?_
      refine Ph.belowd ?_
      simp only [List.drop_succ_cons, List.drop_zero, List.take_succ_cons, List.take_zero, Nat.reduceSub, Nat.sub_zero]
      iterate 8 (refine SeqO.val (v := ?_) (by rfl) (by rfl) (fun w1 hS => ?_) ?_; rotate_left; (· obtain ⟨hc, hcf⟩ := bcell hS; go_simp; try with_reducible rfl); simp only [Act.put, List.setIfInBounds_toArray, List.set_cons_zero, List.set_cons_succ])
      refine SeqO.callv (by rfl) (by rfl) (by rfl) cfSm (by simp [Act.eval]) (fun w1 hS => O.out w1 hS) ?_
      simp only [Act.put, List.setIfInBounds_toArray, List.set_cons_zero, List.set_cons_succ]
      iterate 1 (refine SeqO.val (v := ?_) (by rfl) (by rfl) (fun w1 hS => ?_) ?_; rotate_left; (· obtain ⟨hc, hcf⟩ := bcell hS; go_simp; try with_reducible rfl); simp only [Act.put, List.setIfInBounds_toArray, List.set_cons_zero, List.set_cons_succ])
      refine SeqO.nil0 fun w3 hS3 => ?_
      refine Ph.last ?_
      simp only [List.drop_succ_cons, List.drop_zero, List.take_succ_cons, List.take_zero, Nat.reduceSub, Nat.sub_zero]
      have hW3 := hW.trans (hS3.mono hW.size)
      refine wpList_nil ?_
      clear z0 z1 hW hS3 O
      go_wp2_with fail
      exact ⟨⟨i + 1, by omega, by simp, hW3⟩, by simp [RowKit.intOf]; exact ms⟩
    · have t4 : decide ((i : Int) < (nl : Int)) = false := decide_eq_false (by omega)
      have hWW := hW2.trans (hW.mono hW2.size)
      go_wp2_with fail
      refine (awakeC wr).mono ?_
      rintro e w5 ⟨rfl, hS5⟩
      go_wp2_with fail
      go_ret
      exact ⟨rfl, hWW.trans (hS5.mono hWW.size)⟩
end LIs
end Go.Proofs.Ytocelepohkbooaa
