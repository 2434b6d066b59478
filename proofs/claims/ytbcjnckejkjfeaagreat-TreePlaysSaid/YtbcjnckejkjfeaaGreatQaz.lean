/- What the document's tree tells of a way. Condition: the list is as told. -/
import Derived.Test.YtbcjnckejkjfeaaGreatQaw
import Derived.Test.YtbcjnckejkjfeaaGreatQay
namespace Go.Proofs.YtbcjnckejkjfeaaGreat
set_option linter.unusedVariables false
set_option linter.unusedSimpArgs false
open Go.RowKit Go.NP
namespace DWy
open TrX QVl TrE TFp TFd TMe TWy RHit DSl DPl DMe
theorem cf49 (args : Array Value) (w1 : World) : (callFunc 49 args).run Tryz.prog w1 = .ok (.enter 49 args) w1 := enters Tryz.func49 (by kernel_rfl) (by kernel_rfl) args w1
set_option maxRecDepth 100000 in
set_option maxHeartbeats 4000000 in
theorem rtwNo1 {A : Option Addr} {n : Nat} (cap : Nat) (mg : Int) {f t : Pt} (w : World) (hf : ¬ f.ok) : RetB Tryz.prog 25 #[.agg #[.int .i64 mg, .slice A n cap], .agg #[.int .i64 f.x, .int .i64 f.y, .int .i64 f.z], .agg #[.int .i64 t.x, .int .i64 t.y, .int .i64 t.z]] w (.tuple #[.slice none 0 0, .int .i64 7]) := by
  have hb0 : Below w.heap.size w (w.alloc (.cells #[.int .i64 mg, .slice A n cap] 30)) := (Below.refl _ _).alloc (Nat.le_refl _) _
  have hb1 : Below w.heap.size w ((w.alloc (.cells #[.int .i64 mg, .slice A n cap] 30)).alloc (.cells #[.int .i64 f.x, .int .i64 f.y, .int .i64 f.z] 36)) := hb0.alloc (by simp) _
  have hb : Below w.heap.size w (((w.alloc (.cells #[.int .i64 mg, .slice A n cap] 30)).alloc (.cells #[.int .i64 f.x, .int .i64 f.y, .int .i64 f.z] 36)).alloc (.cells #[.int .i64 t.x, .int .i64 t.y, .int .i64 t.z] 36)) := hb1.alloc (by simp; omega) _
  have hF : Box (((w.alloc (.cells #[.int .i64 mg, .slice A n cap] 30)).alloc (.cells #[.int .i64 f.x, .int .i64 f.y, .int .i64 f.z] 36)).alloc (.cells #[.int .i64 t.x, .int .i64 t.y, .int .i64 t.z] 36)) (w.heap.size + 1) [.int .i64 f.x, .int .i64 f.y, .int .i64 f.z] 36 := by
    have := (Box.new (w := w.alloc (.cells #[.int .i64 mg, .slice A n cap] 30)) (l := [.int .i64 f.x, .int .i64 f.y, .int .i64 f.z]) (T := 36) rfl).step ((Below.refl _ _).alloc (Nat.le_refl _) (.cells #[.int .i64 t.x, .int .i64 t.y, .int .i64 t.z] 36))
    rwa [show (w.alloc (.cells #[.int .i64 mg, .slice A n cap] 30)).heap.size = w.heap.size + 1 by simp] at this
  have hG : Box (((w.alloc (.cells #[.int .i64 mg, .slice A n cap] 30)).alloc (.cells #[.int .i64 f.x, .int .i64 f.y, .int .i64 f.z] 36)).alloc (.cells #[.int .i64 t.x, .int .i64 t.y, .int .i64 t.z] 36)) (w.heap.size + 1 + 1) [.int .i64 t.x, .int .i64 t.y, .int .i64 t.z] 36 := by
    have := Box.new (w := (w.alloc (.cells #[.int .i64 mg, .slice A n cap] 30)).alloc (.cells #[.int .i64 f.x, .int .i64 f.y, .int .i64 f.z] 36)) (l := [.int .i64 t.x, .int .i64 t.y, .int .i64 t.z]) (T := 36) rfl
    rwa [show ((w.alloc (.cells #[.int .i64 mg, .slice A n cap] 30)).alloc (.cells #[.int .i64 f.x, .int .i64 f.y, .int .i64 f.z] 36)).heap.size = w.heap.size + 1 + 1 by simp] at this
  have hT : Box (((w.alloc (.cells #[.int .i64 mg, .slice A n cap] 30)).alloc (.cells #[.int .i64 f.x, .int .i64 f.y, .int .i64 f.z] 36)).alloc (.cells #[.int .i64 t.x, .int .i64 t.y, .int .i64 t.z] 36)) w.heap.size [.int .i64 mg, .slice A n cap] 30 := ((Box.new rfl).step ((Below.refl _ _).alloc (Nat.le_refl _) _)).step ((Below.refl _ _).alloc (Nat.le_refl _) _)
  have HC := Lib.hid (fun u => rpt_no f u hf)
  clear hf
  unfold RetB
  go_enter Tryz.func25, Tryz.ntmps25
  go_wp2_with (refine wpL_load (l := [.int .i64 f.x, .int .i64 f.y, .int .i64 f.z]) (by rfl) (by rfl) hF Tryz.underlying36 (by rfl) (by kernel_rfl) (by kernel_rfl) ?_; (conv => arg 5; simp only [Act.put, List.setIfInBounds_toArray, List.set_cons_zero, List.set_cons_succ]))
  refine (HC.out _).mono ?_
  rintro e w2 ⟨rfl, hb2⟩
  go_wp2_with fail
  exact bodyPost_ret (v := .tuple #[.slice none 0 0, .int .i64 7]) (by simp [results, Tryz.results25, go_sem]) rfl ⟨rfl, hb.trans (hb2.mono hb.size)⟩
set_option maxRecDepth 100000 in
set_option maxHeartbeats 4000000 in
theorem rtwNo2 {A : Option Addr} {n : Nat} (cap : Nat) (mg : Int) {f t : Pt} (w : World) (hf : f.ok) (ht : ¬ t.ok) : RetB Tryz.prog 25 #[.agg #[.int .i64 mg, .slice A n cap], .agg #[.int .i64 f.x, .int .i64 f.y, .int .i64 f.z], .agg #[.int .i64 t.x, .int .i64 t.y, .int .i64 t.z]] w (.tuple #[.slice none 0 0, .int .i64 7]) := by
  have hb0 : Below w.heap.size w (w.alloc (.cells #[.int .i64 mg, .slice A n cap] 30)) := (Below.refl _ _).alloc (Nat.le_refl _) _
  have hb1 : Below w.heap.size w ((w.alloc (.cells #[.int .i64 mg, .slice A n cap] 30)).alloc (.cells #[.int .i64 f.x, .int .i64 f.y, .int .i64 f.z] 36)) := hb0.alloc (by simp) _
  have hb : Below w.heap.size w (((w.alloc (.cells #[.int .i64 mg, .slice A n cap] 30)).alloc (.cells #[.int .i64 f.x, .int .i64 f.y, .int .i64 f.z] 36)).alloc (.cells #[.int .i64 t.x, .int .i64 t.y, .int .i64 t.z] 36)) := hb1.alloc (by simp; omega) _
  have hF : Box (((w.alloc (.cells #[.int .i64 mg, .slice A n cap] 30)).alloc (.cells #[.int .i64 f.x, .int .i64 f.y, .int .i64 f.z] 36)).alloc (.cells #[.int .i64 t.x, .int .i64 t.y, .int .i64 t.z] 36)) (w.heap.size + 1) [.int .i64 f.x, .int .i64 f.y, .int .i64 f.z] 36 := by
    have := (Box.new (w := w.alloc (.cells #[.int .i64 mg, .slice A n cap] 30)) (l := [.int .i64 f.x, .int .i64 f.y, .int .i64 f.z]) (T := 36) rfl).step ((Below.refl _ _).alloc (Nat.le_refl _) (.cells #[.int .i64 t.x, .int .i64 t.y, .int .i64 t.z] 36))
    rwa [show (w.alloc (.cells #[.int .i64 mg, .slice A n cap] 30)).heap.size = w.heap.size + 1 by simp] at this
  have hG : Box (((w.alloc (.cells #[.int .i64 mg, .slice A n cap] 30)).alloc (.cells #[.int .i64 f.x, .int .i64 f.y, .int .i64 f.z] 36)).alloc (.cells #[.int .i64 t.x, .int .i64 t.y, .int .i64 t.z] 36)) (w.heap.size + 1 + 1) [.int .i64 t.x, .int .i64 t.y, .int .i64 t.z] 36 := by
    have := Box.new (w := (w.alloc (.cells #[.int .i64 mg, .slice A n cap] 30)).alloc (.cells #[.int .i64 f.x, .int .i64 f.y, .int .i64 f.z] 36)) (l := [.int .i64 t.x, .int .i64 t.y, .int .i64 t.z]) (T := 36) rfl
    rwa [show ((w.alloc (.cells #[.int .i64 mg, .slice A n cap] 30)).alloc (.cells #[.int .i64 f.x, .int .i64 f.y, .int .i64 f.z] 36)).heap.size = w.heap.size + 1 + 1 by simp] at this
  have hT : Box (((w.alloc (.cells #[.int .i64 mg, .slice A n cap] 30)).alloc (.cells #[.int .i64 f.x, .int .i64 f.y, .int .i64 f.z] 36)).alloc (.cells #[.int .i64 t.x, .int .i64 t.y, .int .i64 t.z] 36)) w.heap.size [.int .i64 mg, .slice A n cap] 30 := ((Box.new rfl).step ((Below.refl _ _).alloc (Nat.le_refl _) _)).step ((Below.refl _ _).alloc (Nat.le_refl _) _)
  have HC := Lib.hid (fun u => rpt_ok f u hf)
  have HD := Lib.hid (fun u => rpt_no t u ht)
  clear hf ht
  unfold RetB
  go_enter Tryz.func25, Tryz.ntmps25
  go_wp2_with (refine wpL_load (l := [.int .i64 f.x, .int .i64 f.y, .int .i64 f.z]) (by rfl) (by rfl) hF Tryz.underlying36 (by rfl) (by kernel_rfl) (by kernel_rfl) ?_; (conv => arg 5; simp only [Act.put, List.setIfInBounds_toArray, List.set_cons_zero, List.set_cons_succ]))
  refine (HC.out _).mono ?_
  rintro e w2 ⟨rfl, hb2⟩
  have hG2 := hG.step hb2
  have hW2 := hb.trans (hb2.mono hb.size)
  clear hF hT hG hb2
  go_wp2_with (refine wpL_load (l := [.int .i64 t.x, .int .i64 t.y, .int .i64 t.z]) (by rfl) (by rfl) hG2 Tryz.underlying36 (by rfl) (by kernel_rfl) (by kernel_rfl) ?_; (conv => arg 5; simp only [Act.put, List.setIfInBounds_toArray, List.set_cons_zero, List.set_cons_succ]))
  refine (HD.out _).mono ?_
  rintro e w3 ⟨rfl, hb3⟩
  go_wp2_with fail
  exact bodyPost_ret (v := .tuple #[.slice none 0 0, .int .i64 7]) (by simp [results, Tryz.results25, go_sem]) rfl ⟨rfl, hW2.trans (hb3.mono hW2.size)⟩
set_option maxRecDepth 100000 in
set_option maxHeartbeats 4000000 in
theorem rtwOk {A : Option Addr} {n : Nat} (cap : Nat) (mg : Int) {f t : Pt} {L : List En} (w : World) (h : SlE w A n L) (hn : n ≤ 100000) (hf : f.ok) (ht : t.ok) :
    Calls Tryz.prog 25 #[.agg #[.int .i64 mg, .slice A n cap], .agg #[.int .i64 f.x, .int .i64 f.y, .int .i64 f.z], .agg #[.int .i64 t.x, .int .i64 t.y, .int .i64 t.z]] w fun e w' => (∃ v, e = .returned (.tuple #[v, .int .i64 0]) ∧ OwnV w' w.heap.size 3 v (TrX.iv (wayL L f t))) ∧ Below w.heap.size w w' := by
  have hln := h.1
  have H := Lib.hid h
  have hb0 : Below w.heap.size w (w.alloc (.cells #[.int .i64 mg, .slice A n cap] 30)) := (Below.refl _ _).alloc (Nat.le_refl _) _
  have hb1 : Below w.heap.size w ((w.alloc (.cells #[.int .i64 mg, .slice A n cap] 30)).alloc (.cells #[.int .i64 f.x, .int .i64 f.y, .int .i64 f.z] 36)) := hb0.alloc (by simp) _
  have hb : Below w.heap.size w (((w.alloc (.cells #[.int .i64 mg, .slice A n cap] 30)).alloc (.cells #[.int .i64 f.x, .int .i64 f.y, .int .i64 f.z] 36)).alloc (.cells #[.int .i64 t.x, .int .i64 t.y, .int .i64 t.z] 36)) := hb1.alloc (by simp; omega) _
  have hF : Box (((w.alloc (.cells #[.int .i64 mg, .slice A n cap] 30)).alloc (.cells #[.int .i64 f.x, .int .i64 f.y, .int .i64 f.z] 36)).alloc (.cells #[.int .i64 t.x, .int .i64 t.y, .int .i64 t.z] 36)) (w.heap.size + 1) [.int .i64 f.x, .int .i64 f.y, .int .i64 f.z] 36 := by
    have := (Box.new (w := w.alloc (.cells #[.int .i64 mg, .slice A n cap] 30)) (l := [.int .i64 f.x, .int .i64 f.y, .int .i64 f.z]) (T := 36) rfl).step ((Below.refl _ _).alloc (Nat.le_refl _) (.cells #[.int .i64 t.x, .int .i64 t.y, .int .i64 t.z] 36))
    rwa [show (w.alloc (.cells #[.int .i64 mg, .slice A n cap] 30)).heap.size = w.heap.size + 1 by simp] at this
  have hG : Box (((w.alloc (.cells #[.int .i64 mg, .slice A n cap] 30)).alloc (.cells #[.int .i64 f.x, .int .i64 f.y, .int .i64 f.z] 36)).alloc (.cells #[.int .i64 t.x, .int .i64 t.y, .int .i64 t.z] 36)) (w.heap.size + 1 + 1) [.int .i64 t.x, .int .i64 t.y, .int .i64 t.z] 36 := by
    have := Box.new (w := (w.alloc (.cells #[.int .i64 mg, .slice A n cap] 30)).alloc (.cells #[.int .i64 f.x, .int .i64 f.y, .int .i64 f.z] 36)) (l := [.int .i64 t.x, .int .i64 t.y, .int .i64 t.z]) (T := 36) rfl
    rwa [show ((w.alloc (.cells #[.int .i64 mg, .slice A n cap] 30)).alloc (.cells #[.int .i64 f.x, .int .i64 f.y, .int .i64 f.z] 36)).heap.size = w.heap.size + 1 + 1 by simp] at this
  have hT : Box (((w.alloc (.cells #[.int .i64 mg, .slice A n cap] 30)).alloc (.cells #[.int .i64 f.x, .int .i64 f.y, .int .i64 f.z] 36)).alloc (.cells #[.int .i64 t.x, .int .i64 t.y, .int .i64 t.z] 36)) w.heap.size [.int .i64 mg, .slice A n cap] 30 := ((Box.new rfl).step ((Below.refl _ _).alloc (Nat.le_refl _) _)).step ((Below.refl _ _).alloc (Nat.le_refl _) _)
  have HC := Lib.hid (fun u => rpt_ok f u hf)
  have HD := Lib.hid (fun u => rpt_ok t u ht)
  clear hf ht h hb0 hb1
  go_enter Tryz.func25, Tryz.ntmps25
  go_wp2_with (refine wpL_load (l := [.int .i64 f.x, .int .i64 f.y, .int .i64 f.z]) (by rfl) (by rfl) hF Tryz.underlying36 (by rfl) (by kernel_rfl) (by kernel_rfl) ?_; (conv => arg 5; simp only [Act.put, List.setIfInBounds_toArray, List.set_cons_zero, List.set_cons_succ]))
  refine (HC.out _).mono ?_
  rintro e w1 ⟨rfl, hb1⟩
  have hF1 := hF.step hb1; have hG2 := hG.step hb1; have hT1 := hT.step hb1
  have hW1 := hb.trans (hb1.mono hb.size)
  clear hF hT hG hb hb1 HC
  go_wp2_with (refine wpL_load (l := [.int .i64 t.x, .int .i64 t.y, .int .i64 t.z]) (by rfl) (by rfl) hG2 Tryz.underlying36 (by rfl) (by kernel_rfl) (by kernel_rfl) ?_; (conv => arg 5; simp only [Act.put, List.setIfInBounds_toArray, List.set_cons_zero, List.set_cons_succ]))
  refine (HD.out _).mono ?_
  rintro e w2 ⟨rfl, hb2⟩
  have hF2 := hF1.step hb2; have hG3 := hG2.step hb2; have hT2 := hT1.step hb2
  have hW2 := hW1.trans (hb2.mono hW1.size)
  clear hF1 hG2 hT1 hW1 hb2 HD
  go_wp2_with fail
  go_loopw [8, 9] (fun v i wr => ∃ (k : Nat), i = .int .i64 (k : Int) ∧ k ≤ n ∧ OwnV wr w2.heap.size 3 v (TrX.iv (wayL (L.take k) f t)) ∧ Below w2.heap.size w2 wr) (fun _ i _ => n - (RowKit.intOf i).toNat)
  case atStart => exact ⟨0, rfl, Nat.zero_le _, OwnV.nil _ _ _, Below.refl _ _⟩
  case round =>
    obtain ⟨k, rfl, hk, hO, hS⟩ := hrel
    have ct := (hT2.step hS).cell 1
    simp only [List.getElem?_cons_zero, List.getElem?_cons_succ] at ct
    have hW := hW2.trans (hS.mono hW2.size)
    by_cases hlt : k < n
    · have t1 : decide ((k : Int) < (n : Int)) = true := by simpa using hlt
      obtain ⟨e, he⟩ : ∃ e, L[k]? = some e := ⟨_, List.getElem?_eq_getElem (by omega)⟩
      obtain ⟨b, off, rfl, hbl, hat0⟩ := H.out.2 (by omega)
      have hat := hat0.step hbl hW
      have AB := Lib.hid (EAt.b hat he)
      have hbw : b < wr.heap.size := by have := hW.size; omega
      have hgw : w.heap.size < wr.heap.size := (hT2.step hS).lt
      have k0 : 0 ≤ (k : Int) ∧ (k : Int) < (n : Int) := by omega
      have BF := Lib.hid (hF2.step hS); have BG := Lib.hid (hG3.step hS)
      have HE := Lib.hid he; have HAT := Lib.hid hat
      have HO := Lib.hid hO; have HS := Lib.hid hS; have HW := Lib.hid hW
      have v1 : IntKind.i64.wrap ((k : Int) + 1) = ((k + 1 : Nat) : Int) := by rw [IntKind.wrap_i64]; omega
      clear hat0 hat he hO hS hW
      cases hq : hitS e.b f t
      · have HM := Lib.hid (fun u => (rhitC e.b f t u).eq (v' := .bool false) (by rw [hq]))
        have HT := Lib.hid (tell_nay (q := fun b => hitS b f t) HE.out hq)
        clear hq
        go_wp2_with fail
        refine wp_region_ph [(9, .free [])] (by kernel_rfl) (by kernel_rfl) ?_
        refine Ph.belowd ?_
        simp only [List.drop_succ_cons, List.drop_zero, List.take_succ_cons, List.take_zero, Nat.reduceSub, Nat.sub_zero]
        iterate 5 (refine SeqO.val (v := ?_) (by rfl) (by rfl) (fun w1 hS => ?_) ?_; rotate_left; (· obtain ⟨hc, hcf⟩ := bcell hS; go_simp; try with_reducible rfl); simp only [Act.put, List.setIfInBounds_toArray, List.set_cons_zero, List.set_cons_succ])
        refine SeqO.at (l := [.int .i64 e.b.lo.x, .int .i64 e.b.lo.y, .int .i64 e.b.lo.z, .int .i64 e.b.hi.x, .int .i64 e.b.hi.y, .int .i64 e.b.hi.z]) (by rfl) (by rfl) hbw AB.out Tryz.underlying38 (by rfl) (by kernel_rfl) (by rfl) (by rfl) ?_
        simp only [Act.put, List.setIfInBounds_toArray, List.set_cons_zero, List.set_cons_succ]
        refine SeqO.row (l := [.int .i64 f.x, .int .i64 f.y, .int .i64 f.z]) (by rfl) (by rfl) BF.out Tryz.underlying36 (by rfl) (by kernel_rfl) (by rfl) (by rfl) ?_
        simp only [Act.put, List.setIfInBounds_toArray, List.set_cons_zero, List.set_cons_succ]
        refine SeqO.row (l := [.int .i64 t.x, .int .i64 t.y, .int .i64 t.z]) (by rfl) (by rfl) BG.out Tryz.underlying36 (by rfl) (by kernel_rfl) (by rfl) (by rfl) ?_
        simp only [Act.put, List.setIfInBounds_toArray, List.set_cons_zero, List.set_cons_succ]
        refine SeqO.callv (by rfl) (by rfl) (by rfl) cf49 (by simp [Act.eval]) (fun w1 hS => HM.out w1) ?_
        simp only [Act.put, List.setIfInBounds_toArray, List.set_cons_zero, List.set_cons_succ]
        refine SeqO.nil0 fun w8 hS8 => ?_
        refine Ph.last ?_
        simp only [List.drop_succ_cons, List.drop_zero, List.take_succ_cons, List.take_zero, Nat.reduceSub, Nat.sub_zero]
        refine wpList_nil ?_
        have hO8 := HO.out.step hS8
        have hS9 := HS.out.trans (hS8.mono HS.out.size)
        clear ct hbw hgw AB BF BG HE HAT HO HS HW HM hS8
        go_wp2_with fail
        exact ⟨⟨k + 1, rfl, by omega, by (rw [show wayL (L.take (k + 1)) f t = wayL (L.take k) f t from HT.out]; exact hO8), hS9⟩, by simp [RowKit.intOf]; omega⟩
      · have HM := Lib.hid (fun u => (rhitC e.b f t u).eq (v' := .bool true) (by rw [hq]))
        have HT := Lib.hid (tell_yes (q := fun b => hitS b f t) HE.out hq)
        clear hq
        go_wp2_with fail
        refine wp_region_ph [(9, .free [])] (by kernel_rfl) (by kernel_rfl) ?_
        refine Ph.belowd ?_
        simp only [List.drop_succ_cons, List.drop_zero, List.take_succ_cons, List.take_zero, Nat.reduceSub, Nat.sub_zero]
        iterate 5 (refine SeqO.val (v := ?_) (by rfl) (by rfl) (fun w1 hS => ?_) ?_; rotate_left; (· obtain ⟨hc, hcf⟩ := bcell hS; go_simp; try with_reducible rfl); simp only [Act.put, List.setIfInBounds_toArray, List.set_cons_zero, List.set_cons_succ])
        refine SeqO.at (l := [.int .i64 e.b.lo.x, .int .i64 e.b.lo.y, .int .i64 e.b.lo.z, .int .i64 e.b.hi.x, .int .i64 e.b.hi.y, .int .i64 e.b.hi.z]) (by rfl) (by rfl) hbw AB.out Tryz.underlying38 (by rfl) (by kernel_rfl) (by rfl) (by rfl) ?_
        simp only [Act.put, List.setIfInBounds_toArray, List.set_cons_zero, List.set_cons_succ]
        refine SeqO.row (l := [.int .i64 f.x, .int .i64 f.y, .int .i64 f.z]) (by rfl) (by rfl) BF.out Tryz.underlying36 (by rfl) (by kernel_rfl) (by rfl) (by rfl) ?_
        simp only [Act.put, List.setIfInBounds_toArray, List.set_cons_zero, List.set_cons_succ]
        refine SeqO.row (l := [.int .i64 t.x, .int .i64 t.y, .int .i64 t.z]) (by rfl) (by rfl) BG.out Tryz.underlying36 (by rfl) (by kernel_rfl) (by rfl) (by rfl) ?_
        simp only [Act.put, List.setIfInBounds_toArray, List.set_cons_zero, List.set_cons_succ]
        refine SeqO.callv (by rfl) (by rfl) (by rfl) cf49 (by simp [Act.eval]) (fun w1 hS => HM.out w1) ?_
        simp only [Act.put, List.setIfInBounds_toArray, List.set_cons_zero, List.set_cons_succ]
        refine SeqO.nil0 fun w8 hS8 => ?_
        refine Ph.last ?_
        simp only [List.drop_succ_cons, List.drop_zero, List.take_succ_cons, List.take_zero, Nat.reduceSub, Nat.sub_zero]
        refine wpList_nil ?_
        have hS9 := HS.out.trans (hS8.mono HS.out.size)
        have ct8 := (hT2.step hS9).cell 1
        simp only [List.getElem?_cons_zero, List.getElem?_cons_succ] at ct8
        have cx : w8.cell? ⟨b, off + k * 13, none⟩ = some (.int .i64 e.n) := EAt.n (HAT.out.step hbw hS8) HE.out
        have hN : Below w8.heap.size w8 (w8.alloc (.cells [.int .i64 e.n].toArray 3)) := (Below.refl _ _).alloc (Nat.le_refl _) _
        have hO1 := (HO.out.step hS8).step hN
        have hc : (w8.alloc (.cells [.int .i64 e.n].toArray 3)).cell? ⟨w8.heap.size, 0, none⟩ = some (.int .i64 e.n) := by rw [(Box.new (w := w8) (l := [.int .i64 e.n]) (T := 3) rfl).cell]; rfl
        have hlen : (TrX.iv (wayL (L.take k) f t)).length ≤ 1000000 := by rw [TrX.iv_len]; exact Nat.le_trans (tell_le _ _) (by rw [List.length_take]; omega)
        have hw8 : w2.heap.size ≤ (w8.alloc (.cells [.int .i64 e.n].toArray 3)).heap.size := by have := hN.size; have := hS9.size; omega
        have HS9 := Lib.hid (hS9.trans (hN.mono hS9.size))
        clear ct hbw hgw AB BF BG HE HAT HO HS HW HM hS8 hS9 hN
        go_wp2_with (at_builtin; refine wpV_app Tryz.underlying50 infoI (by rfl) (by decide) (by rfl) (.tmp 34) (.tmp 41) (by rfl) (by rfl) hO1 (by rfl) hc (by rfl) hlen hw8 ?_; intro v6 w6 hO6 hG6 hL6 hB6)
        have hS6 := hB6 _ HS9.out
        exact ⟨⟨k + 1, rfl, by omega, by (rw [show wayL (L.take (k + 1)) f t = wayL (L.take k) f t ++ [e.n] from HT.out, iv_snoc]; exact hO6), hS6⟩, by simp [RowKit.intOf]; omega⟩
    · obtain rfl : k = n := by omega
      have t1 : decide ((k : Int) < (k : Int)) = false := by simp
      rw [List.take_of_length_le (by omega)] at hO
      go_wp2_with fail
      exact bodyPost_ret (v := .tuple #[u8, .int .i64 0]) (by simp [results, Tryz.results25, go_sem]) rfl ⟨⟨_, rfl, hO.mono hW2.size⟩, hW⟩
theorem rtwayC {A : Option Addr} {n : Nat} (cap : Nat) (mg : Int) {f t : Pt} {L : List En} (w : World) (h : SlE w A n L) (hn : n ≤ 100000) :
    Calls Tryz.prog 25 #[.agg #[.int .i64 mg, .slice A n cap], .agg #[.int .i64 f.x, .int .i64 f.y, .int .i64 f.z], .agg #[.int .i64 t.x, .int .i64 t.y, .int .i64 t.z]] w fun e w' => (∃ v, e = .returned (.tuple #[v, .int .i64 (errIf (f.ok ∧ t.ok))]) ∧ OwnV w' w.heap.size 3 v (TrX.iv (wayL L f t))) ∧ Below w.heap.size w w' := by
  by_cases hf : f.ok
  · by_cases ht : t.ok
    · rw [errIf_pos ⟨hf, ht⟩]; exact rtwOk cap mg w h hn hf ht
    · rw [errIf_neg (fun h => ht h.2), wayL_no (fun h => ht h.2)]
      exact (rtwNo2 cap mg w hf ht).mono fun e w' ⟨he, hb⟩ => ⟨⟨_, he, OwnV.nil _ _ _⟩, hb⟩
  · rw [errIf_neg (fun h => hf h.1), wayL_no (fun h => hf h.1)]
    exact (rtwNo1 cap mg w hf).mono fun e w' ⟨he, hb⟩ => ⟨⟨_, he, OwnV.nil _ _ _⟩, hb⟩
end DWy
end Go.Proofs.YtbcjnckejkjfeaaGreat
