/- What the document's tree tells of a bound. Condition: the list is as told. To whom a way comes: Way, its walk. Condition: the tree is there. Pairs of entries whose bounds meet, plainly. No condition. Pairs appended to one of several lists of one's own, the others staying: a law of lists of operations. Condition: the slice's cells are as told. Pairs of a tree: the walk. Condition: the tree is there, of at most 250 bounds. -/
import Derived.Test.YtbcjnckejkjfeaaGreatQah
import Derived.Test.YtbcjnckejkjfeaaGreatQaq
import Derived.Test.YtbcjnckejkjfeaaGreatQan
import Derived.Test.YtbcjnckejkjfeaaGreatQau
import Derived.Test.YtbcjnckejkjfeaaGreatQav
import Derived.Test.YtbcjnckejkjfeaaGreatQae
namespace Go.Proofs.YtbcjnckejkjfeaaGreat
set_option linter.unusedVariables false
set_option linter.unusedSimpArgs false
open Go.RowKit Go.NP
namespace DMe
open TrX QVl TrE TFp TFd TMe DSl DPl
theorem cf31 (args : Array Value) (w1 : World) : (callFunc 31 args).run Tryz.prog w1 = .ok (.enter 31 args) w1 := enters Tryz.func31 (by kernel_rfl) (by kernel_rfl) args w1
theorem tell_yes {q : Bd → Bool} {L : List En} {k : Nat} {e : En} (h : L[k]? = some e) (c : q e.b = true) : tell q (L.take (k + 1)) = tell q (L.take k) ++ [e.n] := by
  unfold tell; rw [take_snoc h, List.filter_append, List.map_append]; simp [c]
theorem tell_nay {q : Bd → Bool} {L : List En} {k : Nat} {e : En} (h : L[k]? = some e) (c : q e.b = false) : tell q (L.take (k + 1)) = tell q (L.take k) := by
  unfold tell; rw [take_snoc h, List.filter_append]; simp [c]
theorem tell_le (q : Bd → Bool) (L : List En) : (tell q L).length ≤ L.length := by unfold tell; rw [List.length_map]; exact List.length_filter_le _ _
theorem EAt.b {w : World} {b off k : Nat} {l : List En} {e : En} (h : EAt w b off l) (hk : l[k]? = some e) : At' w b (off + k * 13 + 1) [.int .i64 e.b.lo.x, .int .i64 e.b.lo.y, .int .i64 e.b.lo.z, .int .i64 e.b.hi.x, .int .i64 e.b.hi.y, .int .i64 e.b.hi.z] := fun j v hv => by
  have := h k e hk (1 + j) v (by
    have hj : j < 6 := by
      rcases Nat.lt_or_ge j 6 with h | h
      · exact h
      · rw [List.getElem?_eq_none (by exact h)] at hv; cases hv
    rw [← hv]
    rcases (by omega : j = 0 ∨ j = 1 ∨ j = 2 ∨ j = 3 ∨ j = 4 ∨ j = 5) with rfl | rfl | rfl | rfl | rfl | rfl <;> rfl)
  rw [show off + k * 13 + 1 + j = off + k * 13 + (1 + j) by omega]; exact this
set_option maxRecDepth 100000 in
set_option maxHeartbeats 4000000 in
theorem rtmNo {A : Option Addr} {n : Nat} (cap : Nat) (mg : Int) {x : Bd} (w : World) (hx : ¬ x.ok) : RetB Tryz.prog 22 #[.agg #[.int .i64 mg, .slice A n cap], .agg #[.int .i64 x.lo.x, .int .i64 x.lo.y, .int .i64 x.lo.z, .int .i64 x.hi.x, .int .i64 x.hi.y, .int .i64 x.hi.z]] w (.tuple #[.slice none 0 0, .int .i64 7]) := by
  have hb0 : Below w.heap.size w (w.alloc (.cells #[.int .i64 mg, .slice A n cap] 30)) := (Below.refl _ _).alloc (Nat.le_refl _) _
  have hb : Below w.heap.size w ((w.alloc (.cells #[.int .i64 mg, .slice A n cap] 30)).alloc (.cells #[.int .i64 x.lo.x, .int .i64 x.lo.y, .int .i64 x.lo.z, .int .i64 x.hi.x, .int .i64 x.hi.y, .int .i64 x.hi.z] 38)) := hb0.alloc (by simp) _
  have hB : Box ((w.alloc (.cells #[.int .i64 mg, .slice A n cap] 30)).alloc (.cells #[.int .i64 x.lo.x, .int .i64 x.lo.y, .int .i64 x.lo.z, .int .i64 x.hi.x, .int .i64 x.hi.y, .int .i64 x.hi.z] 38)) (w.heap.size + 1) [.int .i64 x.lo.x, .int .i64 x.lo.y, .int .i64 x.lo.z, .int .i64 x.hi.x, .int .i64 x.hi.y, .int .i64 x.hi.z] 38 := by
    have := Box.new (w := w.alloc (.cells #[.int .i64 mg, .slice A n cap] 30)) (l := [.int .i64 x.lo.x, .int .i64 x.lo.y, .int .i64 x.lo.z, .int .i64 x.hi.x, .int .i64 x.hi.y, .int .i64 x.hi.z]) (T := 38) rfl
    rwa [show (w.alloc (.cells #[.int .i64 mg, .slice A n cap] 30)).heap.size = w.heap.size + 1 by simp] at this
  have HC := Lib.hid (fun u => (rbdC x u).eq (v' := .int .i64 7) (by unfold errIf; rw [if_neg hx]))
  clear hx
  unfold RetB
  go_enter Tryz.func22, Tryz.ntmps22
  go_wp2_with (refine wpL_load (l := [.int .i64 x.lo.x, .int .i64 x.lo.y, .int .i64 x.lo.z, .int .i64 x.hi.x, .int .i64 x.hi.y, .int .i64 x.hi.z]) (by rfl) (by rfl) hB Tryz.underlying38 (by rfl) (by kernel_rfl) (by kernel_rfl) ?_; (conv => arg 5; simp only [Act.put, List.setIfInBounds_toArray, List.set_cons_zero, List.set_cons_succ]))
  refine (HC.out _).mono ?_
  rintro e w2 ⟨rfl, hb2⟩
  go_wp2_with fail
  exact bodyPost_ret (v := .tuple #[.slice none 0 0, .int .i64 7]) (by simp [results, Tryz.results22, go_sem]) rfl ⟨rfl, hb.trans (hb2.mono hb.size)⟩
set_option maxRecDepth 100000 in
set_option maxHeartbeats 4000000 in
theorem rtmOk {A : Option Addr} {n : Nat} (cap : Nat) (mg : Int) {x : Bd} {L : List En} (w : World) (h : SlE w A n L) (hn : n ≤ 100000) (hx : x.ok) :
    Calls Tryz.prog 22 #[.agg #[.int .i64 mg, .slice A n cap], .agg #[.int .i64 x.lo.x, .int .i64 x.lo.y, .int .i64 x.lo.z, .int .i64 x.hi.x, .int .i64 x.hi.y, .int .i64 x.hi.z]] w fun e w' => (∃ v, e = .returned (.tuple #[v, .int .i64 0]) ∧ OwnV w' w.heap.size 3 v (iv (meetL L x))) ∧ Below w.heap.size w w' := by
  have hln := h.1
  have H := Lib.hid h
  have hb0 : Below w.heap.size w (w.alloc (.cells #[.int .i64 mg, .slice A n cap] 30)) := (Below.refl _ _).alloc (Nat.le_refl _) _
  have hb : Below w.heap.size w ((w.alloc (.cells #[.int .i64 mg, .slice A n cap] 30)).alloc (.cells #[.int .i64 x.lo.x, .int .i64 x.lo.y, .int .i64 x.lo.z, .int .i64 x.hi.x, .int .i64 x.hi.y, .int .i64 x.hi.z] 38)) := hb0.alloc (by simp) _
  have hB : Box ((w.alloc (.cells #[.int .i64 mg, .slice A n cap] 30)).alloc (.cells #[.int .i64 x.lo.x, .int .i64 x.lo.y, .int .i64 x.lo.z, .int .i64 x.hi.x, .int .i64 x.hi.y, .int .i64 x.hi.z] 38)) (w.heap.size + 1) [.int .i64 x.lo.x, .int .i64 x.lo.y, .int .i64 x.lo.z, .int .i64 x.hi.x, .int .i64 x.hi.y, .int .i64 x.hi.z] 38 := by
    have := Box.new (w := w.alloc (.cells #[.int .i64 mg, .slice A n cap] 30)) (l := [.int .i64 x.lo.x, .int .i64 x.lo.y, .int .i64 x.lo.z, .int .i64 x.hi.x, .int .i64 x.hi.y, .int .i64 x.hi.z]) (T := 38) rfl
    rwa [show (w.alloc (.cells #[.int .i64 mg, .slice A n cap] 30)).heap.size = w.heap.size + 1 by simp] at this
  have hT : Box ((w.alloc (.cells #[.int .i64 mg, .slice A n cap] 30)).alloc (.cells #[.int .i64 x.lo.x, .int .i64 x.lo.y, .int .i64 x.lo.z, .int .i64 x.hi.x, .int .i64 x.hi.y, .int .i64 x.hi.z] 38)) w.heap.size [.int .i64 mg, .slice A n cap] 30 := (Box.new rfl).step ((Below.refl _ _).alloc (Nat.le_refl _) _)
  have HC := Lib.hid (fun u => (rbdC x u).eq (v' := .int .i64 0) (by unfold errIf; rw [if_pos hx]))
  clear hx h hb0
  go_enter Tryz.func22, Tryz.ntmps22
  go_wp2_with (refine wpL_load (l := [.int .i64 x.lo.x, .int .i64 x.lo.y, .int .i64 x.lo.z, .int .i64 x.hi.x, .int .i64 x.hi.y, .int .i64 x.hi.z]) (by rfl) (by rfl) hB Tryz.underlying38 (by rfl) (by kernel_rfl) (by kernel_rfl) ?_; (conv => arg 5; simp only [Act.put, List.setIfInBounds_toArray, List.set_cons_zero, List.set_cons_succ]))
  refine (HC.out _).mono ?_
  rintro e w2 ⟨rfl, hb2⟩
  have hB2 := hB.step hb2; have hT2 := hT.step hb2
  have hW2 := hb.trans (hb2.mono hb.size)
  clear hB hT hb hb2 HC
  go_wp2_with fail
  go_loopw [6, 7] (fun v i wr => ∃ (k : Nat), i = .int .i64 (k : Int) ∧ k ≤ n ∧ OwnV wr w2.heap.size 3 v (iv (meetL (L.take k) x)) ∧ Below w2.heap.size w2 wr) (fun _ i _ => n - (RowKit.intOf i).toNat)
  case atStart => exact ⟨0, rfl, Nat.zero_le _, OwnV.nil _ _ _, Below.refl _ _⟩
  case round =>
    obtain ⟨k, rfl, hk, hO, hS⟩ := hrel
    have ct := (hT2.step hS).cell 1
    simp only [List.getElem?_cons_zero, List.getElem?_cons_succ] at ct
    have hW := hW2.trans (hS.mono hW2.size)
    by_cases hlt : k < n
    · have t1 : decide ((k : Int) < (n : Int)) = true := by simpa using hlt
      obtain ⟨e, he⟩ : ∃ e, L[k]? = some e := ⟨_, List.getElem?_eq_getElem (by omega)⟩
      obtain ⟨b, off, rfl, hbl, hat0⟩ := H.out.2 (by omega)
      have hat := hat0.step hbl hW
      have AB := Lib.hid (EAt.b hat he)
      have hbw : b < wr.heap.size := by have := hW.size; omega
      have hgw : w.heap.size < wr.heap.size := (hT2.step hS).lt
      have k0 : 0 ≤ (k : Int) ∧ (k : Int) < (n : Int) := by omega
      have BX := Lib.hid (hB2.step hS)
      have HE := Lib.hid he; have HAT := Lib.hid hat
      have HO := Lib.hid hO; have HS := Lib.hid hS; have HW := Lib.hid hW
      have v1 : IntKind.i64.wrap ((k : Int) + 1) = ((k + 1 : Nat) : Int) := by rw [IntKind.wrap_i64]; omega
      clear hat0 hat he hO hS hW
      cases hq : meet e.b x
      · have HM := Lib.hid (fun u => (rmeetC e.b x u).eq (v' := .bool false) (by rw [hq]))
        have HT := Lib.hid (tell_nay (q := fun b => meet b x) HE.out hq)
        clear hq
        go_wp2_with fail
        refine wp_region_ph [(8, .free [])] (by kernel_rfl) (by kernel_rfl) ?_
        refine Ph.belowd ?_
        simp only [List.drop_succ_cons, List.drop_zero, List.take_succ_cons, List.take_zero, Nat.reduceSub, Nat.sub_zero]
        iterate 5 (refine SeqO.val (v := ?_) (by rfl) (by rfl) (fun w1 hS => ?_) ?_; rotate_left; (· obtain ⟨hc, hcf⟩ := bcell hS; go_simp; try with_reducible rfl); simp only [Act.put, List.setIfInBounds_toArray, List.set_cons_zero, List.set_cons_succ])
        refine SeqO.at (l := [.int .i64 e.b.lo.x, .int .i64 e.b.lo.y, .int .i64 e.b.lo.z, .int .i64 e.b.hi.x, .int .i64 e.b.hi.y, .int .i64 e.b.hi.z]) (by rfl) (by rfl) hbw AB.out Tryz.underlying38 (by rfl) (by kernel_rfl) (by rfl) (by rfl) ?_
        simp only [Act.put, List.setIfInBounds_toArray, List.set_cons_zero, List.set_cons_succ]
        refine SeqO.row (l := [.int .i64 x.lo.x, .int .i64 x.lo.y, .int .i64 x.lo.z, .int .i64 x.hi.x, .int .i64 x.hi.y, .int .i64 x.hi.z]) (by rfl) (by rfl) BX.out Tryz.underlying38 (by rfl) (by kernel_rfl) (by rfl) (by rfl) ?_
        simp only [Act.put, List.setIfInBounds_toArray, List.set_cons_zero, List.set_cons_succ]
        refine SeqO.callv (by rfl) (by rfl) (by rfl) cf31 (by simp [Act.eval]) (fun w1 hS => HM.out w1) ?_
        simp only [Act.put, List.setIfInBounds_toArray, List.set_cons_zero, List.set_cons_succ]
        refine SeqO.nil0 fun w8 hS8 => ?_
        refine Ph.last ?_
        simp only [List.drop_succ_cons, List.drop_zero, List.take_succ_cons, List.take_zero, Nat.reduceSub, Nat.sub_zero]
        refine wpList_nil ?_
        have hO8 := HO.out.step hS8
        have hS9 := HS.out.trans (hS8.mono HS.out.size)
        clear ct hbw hgw AB BX HE HAT HO HS HW HM hS8
        go_wp2_with fail
        exact ⟨⟨k + 1, rfl, by omega, by (rw [show meetL (L.take (k + 1)) x = meetL (L.take k) x from HT.out]; exact hO8), hS9⟩, by simp [RowKit.intOf]; omega⟩
      · have HM := Lib.hid (fun u => (rmeetC e.b x u).eq (v' := .bool true) (by rw [hq]))
        have HT := Lib.hid (tell_yes (q := fun b => meet b x) HE.out hq)
        clear hq
        go_wp2_with fail
        refine wp_region_ph [(8, .free [])] (by kernel_rfl) (by kernel_rfl) ?_
        refine Ph.belowd ?_
        simp only [List.drop_succ_cons, List.drop_zero, List.take_succ_cons, List.take_zero, Nat.reduceSub, Nat.sub_zero]
        iterate 5 (refine SeqO.val (v := ?_) (by rfl) (by rfl) (fun w1 hS => ?_) ?_; rotate_left; (· obtain ⟨hc, hcf⟩ := bcell hS; go_simp; try with_reducible rfl); simp only [Act.put, List.setIfInBounds_toArray, List.set_cons_zero, List.set_cons_succ])
        refine SeqO.at (l := [.int .i64 e.b.lo.x, .int .i64 e.b.lo.y, .int .i64 e.b.lo.z, .int .i64 e.b.hi.x, .int .i64 e.b.hi.y, .int .i64 e.b.hi.z]) (by rfl) (by rfl) hbw AB.out Tryz.underlying38 (by rfl) (by kernel_rfl) (by rfl) (by rfl) ?_
        simp only [Act.put, List.setIfInBounds_toArray, List.set_cons_zero, List.set_cons_succ]
        refine SeqO.row (l := [.int .i64 x.lo.x, .int .i64 x.lo.y, .int .i64 x.lo.z, .int .i64 x.hi.x, .int .i64 x.hi.y, .int .i64 x.hi.z]) (by rfl) (by rfl) BX.out Tryz.underlying38 (by rfl) (by kernel_rfl) (by rfl) (by rfl) ?_
        simp only [Act.put, List.setIfInBounds_toArray, List.set_cons_zero, List.set_cons_succ]
        refine SeqO.callv (by rfl) (by rfl) (by rfl) cf31 (by simp [Act.eval]) (fun w1 hS => HM.out w1) ?_
        simp only [Act.put, List.setIfInBounds_toArray, List.set_cons_zero, List.set_cons_succ]
        refine SeqO.nil0 fun w8 hS8 => ?_
        refine Ph.last ?_
        simp only [List.drop_succ_cons, List.drop_zero, List.take_succ_cons, List.take_zero, Nat.reduceSub, Nat.sub_zero]
        refine wpList_nil ?_
        have hS9 := HS.out.trans (hS8.mono HS.out.size)
        have ct8 := (hT2.step hS9).cell 1
        simp only [List.getElem?_cons_zero, List.getElem?_cons_succ] at ct8
        have cx : w8.cell? ⟨b, off + k * 13, none⟩ = some (.int .i64 e.n) := EAt.n (HAT.out.step hbw hS8) HE.out
        have hN : Below w8.heap.size w8 (w8.alloc (.cells [.int .i64 e.n].toArray 3)) := (Below.refl _ _).alloc (Nat.le_refl _) _
        have hO1 := (HO.out.step hS8).step hN
        have hc : (w8.alloc (.cells [.int .i64 e.n].toArray 3)).cell? ⟨w8.heap.size, 0, none⟩ = some (.int .i64 e.n) := by rw [(Box.new (w := w8) (l := [.int .i64 e.n]) (T := 3) rfl).cell]; rfl
        have hlen : (iv (meetL (L.take k) x)).length ≤ 1000000 := by rw [iv_len]; exact Nat.le_trans (tell_le _ _) (by rw [List.length_take]; omega)
        have hw8 : w2.heap.size ≤ (w8.alloc (.cells [.int .i64 e.n].toArray 3)).heap.size := by have := hN.size; have := hS9.size; omega
        have HS9 := Lib.hid (hS9.trans (hN.mono hS9.size))
        clear ct hbw hgw AB BX HE HAT HO HS HW HM hS8 hS9 hN
        go_wp2_with (at_builtin; refine wpV_app Tryz.underlying50 infoI (by rfl) (by decide) (by rfl) (.tmp 26) (.tmp 33) (by rfl) (by rfl) hO1 (by rfl) hc (by rfl) hlen hw8 ?_; intro v6 w6 hO6 hG6 hL6 hB6)
        have hS6 := hB6 _ HS9.out
        exact ⟨⟨k + 1, rfl, by omega, by (rw [show meetL (L.take (k + 1)) x = meetL (L.take k) x ++ [e.n] from HT.out, iv_snoc]; exact hO6), hS6⟩, by simp [RowKit.intOf]; omega⟩
    · obtain rfl : k = n := by omega
      have t1 : decide ((k : Int) < (k : Int)) = false := by simp
      rw [List.take_of_length_le (by omega)] at hO
      go_wp2_with fail
      exact bodyPost_ret (v := .tuple #[u6, .int .i64 0]) (by simp [results, Tryz.results22, go_sem]) rfl ⟨⟨_, rfl, hO.mono hW2.size⟩, hW⟩
theorem rtmeetC {A : Option Addr} {n : Nat} (cap : Nat) (mg : Int) {x : Bd} {L : List En} (w : World) (h : SlE w A n L) (hn : n ≤ 100000) :
    Calls Tryz.prog 22 #[.agg #[.int .i64 mg, .slice A n cap], .agg #[.int .i64 x.lo.x, .int .i64 x.lo.y, .int .i64 x.lo.z, .int .i64 x.hi.x, .int .i64 x.hi.y, .int .i64 x.hi.z]] w fun e w' => (∃ v, e = .returned (.tuple #[v, .int .i64 (errIf x.ok)]) ∧ OwnV w' w.heap.size 3 v (iv (meetL L x))) ∧ Below w.heap.size w w' := by
  by_cases hx : x.ok
  · rw [errIf_pos hx]; exact rtmOk cap mg w h hn hx
  · rw [errIf_neg hx, meetL_no hx]
    exact (rtmNo cap mg w hx).mono fun e w' ⟨he, hb⟩ => ⟨⟨_, he, OwnV.nil _ _ _⟩, hb⟩
end DMe
end Go.Proofs.YtbcjnckejkjfeaaGreat
namespace Go.Proofs.YtbcjnckejkjfeaaGreat
set_option linter.unusedVariables false
set_option linter.unusedSimpArgs false
open Go.RowKit Go.NP
namespace TWy
open TrP TrW TrC TrA TrF TrG TrX TrY TrK THg TCt QVl TrE TrI TAs TFp TFd TSr TMe
theorem cf46 (args : Array Value) (w1 : World) : (callFunc 46 args).run Tryz.prog w1 = .ok (.enter 46 args) w1 := enters Tryz.func46 (by kernel_rfl) (by kernel_rfl) args w1
theorem hitC (a : Bd) (f t : Pt) (w : World) : RetB Tryz.prog 47 #[.agg #[.int .i64 a.lo.x, .int .i64 a.lo.y, .int .i64 a.lo.z, .int .i64 a.hi.x, .int .i64 a.hi.y, .int .i64 a.hi.z], .agg #[.int .i64 f.x, .int .i64 f.y, .int .i64 f.z], .agg #[.int .i64 t.x, .int .i64 t.y, .int .i64 t.z]] w (.bool (hitS a f t)) := by
  by_cases h : a.ok ∧ f.ok ∧ t.ok
  · exact hitY a f t h.1 h.2.1 h.2.2 w
  · rw [hit_no h]; exact hitN a f t h w
theorem gcheckV (p : Pt) (w : World) : RetB Tryz.prog 45 #[.agg #[.int .i64 p.x, .int .i64 p.y, .int .i64 p.z]] w (.int .i64 (errIf p.ok)) := by
  by_cases h : p.ok
  · rw [errIf_pos h]; exact gcheck_ok p w h
  · rw [errIf_neg h]; exact gcheck_no p w h
set_option maxRecDepth 100000 in
set_option maxHeartbeats 2000000 in
theorem m2C {g1 g2 : Nat} {f t : Pt} (b : Bd) (u : World) (h : Box u g1 [.int .i64 f.x, .int .i64 f.y, .int .i64 f.z] 36) (h' : Box u g2 [.int .i64 t.x, .int .i64 t.y, .int .i64 t.z] 36) : RetB Tryz.prog 46 #[.agg #[.int .i64 b.lo.x, .int .i64 b.lo.y, .int .i64 b.lo.z, .int .i64 b.hi.x, .int .i64 b.hi.y, .int .i64 b.hi.z], .pointer (some ⟨g1, 0, none⟩), .pointer (some ⟨g2, 0, none⟩)] u (.bool (hitS b f t)) := by
  have hb : Below u.heap.size u (u.alloc (.cells #[.int .i64 b.lo.x, .int .i64 b.lo.y, .int .i64 b.lo.z, .int .i64 b.hi.x, .int .i64 b.hi.y, .int .i64 b.hi.z] 38)) := (Below.refl _ _).alloc (Nat.le_refl _) _
  have H1 := Lib.hid (h.step hb); have H3 := Lib.hid (h'.step hb)
  have H2 := Lib.hid (show Box (u.alloc (.cells #[.int .i64 b.lo.x, .int .i64 b.lo.y, .int .i64 b.lo.z, .int .i64 b.hi.x, .int .i64 b.hi.y, .int .i64 b.hi.z] 38)) u.heap.size [.int .i64 b.lo.x, .int .i64 b.lo.y, .int .i64 b.lo.z, .int .i64 b.hi.x, .int .i64 b.hi.y, .int .i64 b.hi.z] 38 from Box.new rfl)
  clear h h'
  unfold RetB
  go_enter Tryz.func46, Tryz.ntmps46
  go_wp2_with (first | (refine wpL_load (l := [.int .i64 b.lo.x, .int .i64 b.lo.y, .int .i64 b.lo.z, .int .i64 b.hi.x, .int .i64 b.hi.y, .int .i64 b.hi.z]) (by rfl) (by rfl) H2.out Tryz.underlying38 (by rfl) (by kernel_rfl) (by kernel_rfl) ?_; (conv => arg 5; simp only [Act.put, List.setIfInBounds_toArray, List.set_cons_zero, List.set_cons_succ])) | (refine wpL_load (l := [.int .i64 f.x, .int .i64 f.y, .int .i64 f.z]) (by rfl) (by rfl) H1.out Tryz.underlying36 (by rfl) (by kernel_rfl) (by kernel_rfl) ?_; (conv => arg 5; simp only [Act.put, List.setIfInBounds_toArray, List.set_cons_zero, List.set_cons_succ])) | (refine wpL_load (l := [.int .i64 t.x, .int .i64 t.y, .int .i64 t.z]) (by rfl) (by rfl) H3.out Tryz.underlying36 (by rfl) (by kernel_rfl) (by kernel_rfl) ?_; (conv => arg 5; simp only [Act.put, List.setIfInBounds_toArray, List.set_cons_zero, List.set_cons_succ])))
  refine (hitC b f t _).mono ?_
  rintro e w1 ⟨rfl, hS⟩
  go_wp2_with fail
  exact bodyPost_ret (v := .bool (hitS b f t)) (by simp [results, Tryz.results46, go_sem, *]) rfl ⟨rfl, hb.trans (hS.mono hb.size)⟩
/-- The numbers to whose bounds a way comes. -/
def wayL (L : List En) (f t : Pt) : List Int := tell (fun b => hitS b f t) L
theorem wayL_no {L : List En} {f t : Pt} (h : ¬ (f.ok ∧ t.ok)) : wayL L f t = [] := by
  unfold wayL tell
  rw [List.filter_eq_nil_iff.2]; · rfl
  intro e _ hm
  have h2 : hitS e.b f t = true := hm
  rw [hit_no fun q => h q.2] at h2
  cases h2
set_option maxRecDepth 100000 in
set_option maxHeartbeats 4000000 in
theorem wayC {p K : Nat} {mg : Int} {f t : Pt} {L : List En} {S : Nat → Prop} (w : World) (h : TI w p mg L S K) (hK : K < 80000) :
    Calls Tryz.prog 24 #[.pointer (some ⟨p, 0, none⟩), .agg #[.int .i64 f.x, .int .i64 f.y, .int .i64 f.z], .agg #[.int .i64 t.x, .int .i64 t.y, .int .i64 t.z]] w fun e w' => (∃ v, e = .returned (.tuple #[v, .int .i64 (errIf (f.ok ∧ t.ok))]) ∧ OwnV w' w.heap.size 3 v (iv (wayL L f t))) ∧ Below w.heap.size w w' := by
  have hb1 : Below w.heap.size w (w.alloc (.cells #[.int .i64 f.x, .int .i64 f.y, .int .i64 f.z] 36)) := (Below.refl _ _).alloc (Nat.le_refl _) _
  have hb : Below w.heap.size w ((w.alloc (.cells #[.int .i64 f.x, .int .i64 f.y, .int .i64 f.z] 36)).alloc (.cells #[.int .i64 t.x, .int .i64 t.y, .int .i64 t.z] 36)) := hb1.alloc (by simp) _
  have h1 : Box ((w.alloc (.cells #[.int .i64 f.x, .int .i64 f.y, .int .i64 f.z] 36)).alloc (.cells #[.int .i64 t.x, .int .i64 t.y, .int .i64 t.z] 36)) w.heap.size [.int .i64 f.x, .int .i64 f.y, .int .i64 f.z] 36 := (Box.new rfl).alloc _
  have h2 : Box ((w.alloc (.cells #[.int .i64 f.x, .int .i64 f.y, .int .i64 f.z] 36)).alloc (.cells #[.int .i64 t.x, .int .i64 t.y, .int .i64 t.z] 36)) (w.heap.size + 1) [.int .i64 t.x, .int .i64 t.y, .int .i64 t.z] 36 := Box.new (by simp)
  have hti := h.step hb
  have hm : ((w.alloc (.cells #[.int .i64 f.x, .int .i64 f.y, .int .i64 f.z] 36)).alloc (.cells #[.int .i64 t.x, .int .i64 t.y, .int .i64 t.z] 36)).cell? ⟨p, 0, none⟩ = some (.bool true) ∧ p < ((w.alloc (.cells #[.int .i64 f.x, .int .i64 f.y, .int .i64 f.z] 36)).alloc (.cells #[.int .i64 t.x, .int .i64 t.y, .int .i64 t.z] 36)).heap.size := by
    obtain ⟨T, F, al, lv, b, c, pl, h0, rfl⟩ := hti
    have := TO.madec h0.ts.tx.to; rw [h0.p_] at this; exact ⟨this, h0.lt⟩
  have AS := Lib.hid (askedC (n := 1) (x := bzero) _ hm.1 hm.2)
  have e1 : askS 1 bzero = 0 := by decide
  rw [e1] at AS
  have H1 := Lib.hid h1; have H2 := Lib.hid h2; have HTI := Lib.hid hti; have HBE := Lib.hid hb
  clear h h1 h2 hti hm hb hb1
  obtain ⟨er, her⟩ : ∃ er, errIf (f.ok ∧ t.ok) = er := ⟨_, rfl⟩
  obtain ⟨ws, hws⟩ : ∃ ws, wayL L f t = ws := ⟨_, rfl⟩
  rw [her, hws]
  go_enter Tryz.func24, Tryz.ntmps24
  go_wp2_with fail
  refine AS.out.mono ?_
  rintro e w1 ⟨rfl, hS⟩
  have h1 := H1.out.step hS
  have h2 := H2.out.step hS
  have hti := HTI.out.step hS
  have HW := Lib.hid (HBE.out.trans (hS.mono HBE.out.size))
  clear AS H1 H2 HTI HBE hS
  have H1 := Lib.hid h1; have H2 := Lib.hid h2; have HTI := Lib.hid hti
  clear h1 h2 hti
  by_cases hf : f.ok
  · by_cases ht : t.ok
    · obtain rfl : er = 0 := by rw [← her, errIf_pos ⟨hf, ht⟩]
      go_wp2_with (refine wpL_load (l := [.int .i64 f.x, .int .i64 f.y, .int .i64 f.z]) (by rfl) (by rfl) H1.out Tryz.underlying36 (by rfl) (by kernel_rfl) (by kernel_rfl) ?_; (conv => arg 5; simp only [Act.put, List.setIfInBounds_toArray, List.set_cons_zero, List.set_cons_succ]))
      refine Calls.mono (gcheck_ok f w1 hf) ?_
      rintro e w2 ⟨rfl, hS2⟩
      have H2b := Lib.hid (H2.out.step hS2)
      go_wp2_with (refine wpL_load (l := [.int .i64 t.x, .int .i64 t.y, .int .i64 t.z]) (by rfl) (by rfl) H2b.out Tryz.underlying36 (by rfl) (by kernel_rfl) (by kernel_rfl) ?_; (conv => arg 5; simp only [Act.put, List.setIfInBounds_toArray, List.set_cons_zero, List.set_cons_succ]))
      refine Calls.mono (gcheck_ok t w2 ht) ?_
      rintro e w3 ⟨rfl, hS3⟩
      have g1 := (H1.out.step hS2).step hS3
      have g2 := H2b.out.step hS3
      have gt := (HTI.out.step hS2).step hS3
      have HW3 := Lib.hid ((HW.out.trans (hS2.mono HW.out.size)).trans (hS3.mono (by have := HW.out.size; have := hS2.size; omega)))
      clear H1 H2 HTI HW H2b hS2 hS3
      go_wp2_with fail
      refine (findTI (q := fun b => hitS b f t) (fid := 46) (ca := #[.pointer (some ⟨w.heap.size, 0, none⟩), .pointer (some ⟨w.heap.size + 1, 0, none⟩)]) w3 gt hK (fun F b q1 q2 => hit_more q1 q2) cf46 (fun b u hu => m2C b u (g1.step hu) (g2.step hu))).mono ?_
      rintro e w4 ⟨⟨v, rfl, hv⟩, hS4⟩
      have FIN := Lib.hid (show (∃ v_1, Ending.returned (.tuple #[v, .int .i64 0]) = .returned (.tuple #[v_1, .int .i64 0]) ∧ OwnV w4 w.heap.size 3 v_1 (iv ws)) ∧ Below w.heap.size w w4 from ⟨⟨v, rfl, by rw [← hws]; exact hv.mono HW3.out.size⟩, HW3.out.trans (hS4.mono HW3.out.size)⟩)
      clear hv hS4 HW3 g1 g2 gt
      go_wp2_with fail
      exact bodyPost_ret (v := .tuple #[v, .int .i64 0]) (by simp [results, Tryz.results24, go_sem]) rfl FIN.out
    · obtain rfl : er = 7 := by rw [← her, errIf_neg fun q => ht q.2]
      obtain rfl : ws = [] := by rw [← hws, wayL_no fun q => ht q.2]
      go_wp2_with (refine wpL_load (l := [.int .i64 f.x, .int .i64 f.y, .int .i64 f.z]) (by rfl) (by rfl) H1.out Tryz.underlying36 (by rfl) (by kernel_rfl) (by kernel_rfl) ?_; (conv => arg 5; simp only [Act.put, List.setIfInBounds_toArray, List.set_cons_zero, List.set_cons_succ]))
      refine Calls.mono (gcheck_ok f w1 hf) ?_
      rintro e w2 ⟨rfl, hS2⟩
      have H2b := Lib.hid (H2.out.step hS2)
      go_wp2_with (refine wpL_load (l := [.int .i64 t.x, .int .i64 t.y, .int .i64 t.z]) (by rfl) (by rfl) H2b.out Tryz.underlying36 (by rfl) (by kernel_rfl) (by kernel_rfl) ?_; (conv => arg 5; simp only [Act.put, List.setIfInBounds_toArray, List.set_cons_zero, List.set_cons_succ]))
      refine Calls.mono (gcheck_no t w2 ht) ?_
      rintro e w3 ⟨rfl, hS3⟩
      go_wp2_with fail
      exact bodyPost_ret (v := .tuple #[.slice none 0 0, .int .i64 7]) (by simp [results, Tryz.results24, go_sem]) rfl ⟨⟨.slice none 0 0, rfl, OwnV.nil _ _ _⟩, (HW.out.trans (hS2.mono HW.out.size)).trans (hS3.mono (by have := HW.out.size; have := hS2.size; omega))⟩
  · obtain rfl : er = 7 := by rw [← her, errIf_neg fun q => hf q.1]
    obtain rfl : ws = [] := by rw [← hws, wayL_no fun q => hf q.1]
    go_wp2_with (refine wpL_load (l := [.int .i64 f.x, .int .i64 f.y, .int .i64 f.z]) (by rfl) (by rfl) H1.out Tryz.underlying36 (by rfl) (by kernel_rfl) (by kernel_rfl) ?_; (conv => arg 5; simp only [Act.put, List.setIfInBounds_toArray, List.set_cons_zero, List.set_cons_succ]))
    refine Calls.mono (gcheck_no f w1 hf) ?_
    rintro e w2 ⟨rfl, hS2⟩
    go_wp2_with fail
    exact bodyPost_ret (v := .tuple #[.slice none 0 0, .int .i64 7]) (by simp [results, Tryz.results24, go_sem]) rfl ⟨⟨.slice none 0 0, rfl, OwnV.nil _ _ _⟩, HW.out.trans (hS2.mono HW.out.size)⟩
end TWy
end Go.Proofs.YtbcjnckejkjfeaaGreat
namespace Go.Proofs.YtbcjnckejkjfeaaGreat
set_option linter.unusedVariables false
set_option linter.unusedSimpArgs false
open Go.RowKit Go.NP
namespace TPp
open TrE TMe
theorem pmin_comm' (p q : Pt) : pmin p q = pmin q p := pmin_comm p q
theorem meet_comm (a b : Bd) : meet a b = meet b a := by
  unfold meet
  rw [pmax_comm a.lo b.lo, pmin_comm a.hi b.hi]
  congr 1
  exact propext ⟨fun h => ⟨h.2.1, h.1, h.2.2⟩, fun h => ⟨h.2.1, h.1, h.2.2⟩⟩
/-- The pairs of entries, the first one rising. -/
def pairsP : List En → List Pr
  | [] => []
  | e :: r => ((r.filter fun x => meet e.b x.b).map fun x => (⟨e.n, x.n⟩ : Pr)) ++ pairsP r
/-- The pairs of one entry, found by its bound. -/
def pairsOf (L : List En) (e : En) : List Pr := ((meetL L e.b).filter fun m => decide (e.n < m)).map fun m => (⟨e.n, m⟩ : Pr)
theorem of_tail {A B : List En} {e : En} (h : Rise (A ++ e :: B)) : pairsOf (A ++ e :: B) e = (B.filter fun x => meet e.b x.b).map fun x => (⟨e.n, x.n⟩ : Pr) := by
  obtain ⟨h1, h2, h3⟩ := List.pairwise_append.1 h
  have h4 := List.pairwise_cons.1 h2
  unfold pairsOf meetL tell
  rw [List.filter_map, List.map_map, List.filter_filter, List.filter_append, List.filter_cons]
  have eA : A.filter (fun a => ((fun m => decide (e.n < m)) ∘ fun x : En => x.n) a && meet a.b e.b) = [] := List.filter_eq_nil_iff.2 fun a ha => by
    have := h3 a ha e (List.mem_cons_self ..)
    have hx : ¬ e.n < a.n := by omega
    simp [hx]
  have eE : (((fun m => decide (e.n < m)) ∘ fun x : En => x.n) e && meet e.b e.b) = false := by simp
  rw [eA, eE, List.nil_append, if_neg (by simp)]
  have eB : B.filter (fun a => ((fun m => decide (e.n < m)) ∘ fun x : En => x.n) a && meet a.b e.b) = B.filter fun x => meet e.b x.b := List.filter_congr fun a ha => by
    have := h4.1 a ha
    simp [this, meet_comm a.b e.b]
  rw [eB]
  rfl
theorem all_pairs : ∀ {B A : List En}, Rise (A ++ B) → B.flatMap (pairsOf (A ++ B)) = pairsP B
  | [], A, h => rfl
  | e :: B, A, h => by
    rw [List.flatMap_cons, of_tail h]
    have h2 : A ++ e :: B = (A ++ [e]) ++ B := by simp
    show _ = _ ++ pairsP B
    rw [← all_pairs (A := A ++ [e]) (B := B) (by rw [← h2]; exact h), h2]
theorem pairs_len : ∀ L : List En, (pairsP L).length ≤ L.length * L.length
  | [] => Nat.le_refl _
  | e :: r => by
    have h1 := pairs_len r
    have h2 := List.length_filter_le (fun x : En => meet e.b x.b) r
    unfold pairsP
    rw [List.length_append, List.length_map, List.length_cons, Nat.add_mul, Nat.mul_add]
    omega
theorem pairs_mem : ∀ {L : List En}, ∀ x ∈ pairsP L, ∃ e ∈ L, x.a = e.n
  | [], x, h => by cases h
  | e :: r, x, h => by
    rcases List.mem_append.1 h with h | h
    · obtain ⟨y, _, rfl⟩ := List.mem_map.1 h
      exact ⟨e, List.mem_cons_self .., rfl⟩
    · obtain ⟨y, hy, he⟩ := pairs_mem x h
      exact ⟨y, List.mem_cons_of_mem _ hy, he⟩
theorem pairs_rise : ∀ {L : List En}, Rise L → (pairsP L).Pairwise ltP
  | [], _ => List.Pairwise.nil
  | e :: r, h => by
    have h1 := List.pairwise_cons.1 h
    refine List.pairwise_append.2 ⟨List.pairwise_map.2 ((List.Pairwise.sublist List.filter_sublist h1.2).imp fun hx => .inr ⟨rfl, hx⟩), pairs_rise h1.2, fun x hx y hy => ?_⟩
    obtain ⟨z, _, rfl⟩ := List.mem_map.1 hx
    obtain ⟨u, hu, hue⟩ := pairs_mem y hy
    have := h1.1 u hu
    left; show e.n < y.a; omega
theorem pairs_ok : ∀ {L : List En}, Rise L → (∀ e ∈ L, 1 ≤ e.n ∧ e.n ≤ 4096) → ∀ x ∈ pairsP L, okP x
  | [], _, _, x, h => by cases h
  | e :: r, h, hr, x, hx => by
    have h1 := List.pairwise_cons.1 h
    rcases List.mem_append.1 hx with hx | hx
    · obtain ⟨y, hy, rfl⟩ := List.mem_map.1 hx
      have hy' := (List.mem_filter.1 hy).1
      exact ⟨(hr e (List.mem_cons_self ..)).1, h1.1 y hy', (hr y (List.mem_cons_of_mem _ hy')).2⟩
    · exact pairs_ok h1.2 (fun e he => hr e (List.mem_cons_of_mem _ he)) x hx
theorem sorted_is {L : List En} {r : List Pr} (h : Rise L) (hp : r.Perm (pairsP L)) (hs : r.Pairwise fun x y => ¬ ltP y x) : r = pairsP L := by
  refine List.Perm.eq_of_pairwise (le := fun x y : Pr => ¬ ltP y x) (fun a b _ _ h1 h2 => ?_) hs ((pairs_rise h).imp fun {x y} hxy => ?_) hp
  · obtain ⟨a1, a2⟩ := a; obtain ⟨b1, b2⟩ := b
    unfold ltP at h1 h2
    simp only at h1 h2
    have : a1 = b1 ∧ a2 = b2 := by omega
    rw [this.1, this.2]
  · unfold ltP at *; omega
end TPp
end Go.Proofs.YtbcjnckejkjfeaaGreat
namespace Go.Proofs.YtbcjnckejkjfeaaGreat
set_option linter.unusedVariables false
set_option linter.unusedSimpArgs false
open Go.RowKit Go.NP
/-- Where the appended list lies: where it lay, or in a new block. -/
theorem append_where {P : Program} {w : World} (base : Nat) (t ty e : TypeId) (i : TypeInfo) (z : Value) (size bytes : Nat) (ht : P.underlying t = some (.slice e)) (hi : P.info? e = some i) (hz : i.zero = some z)
    (hsize : i.size = size) (hby : i.bytes = bytes) (v : Value) (n : Nat) (xs : List Value) (hown : w.ownsRow base e size v n xs)
    (a : Addr) (m c : Nat) (news : List Value) (hl : news.length = m * size) (hnews : ∀ j u, news[j]? = some u → w.cell? (a.add j) = some u) (h1 : ∀ u ∈ news, u.oneCell' = true)
    (h63 : n + m ≤ maxLen) (hbytes : (n + m) * bytes ≤ 140737488355328) {v' : Value} {w' : World} (hr : (Builtin.append_ #[t, t] ty #[v, .slice (some a) m c]).run P w = .ok v' w') :
    v'.ownBlock = v.ownBlock ∨ v'.ownBlock = some w.heap.size := by
  subst hsize
  subst hby
  have hsmall : n + m ≤ 9223372036854775807 := by simp only [maxLen] at h63; omega
  rcases hown.2 with ⟨rfl, rfl⟩ | ⟨g, cap, cur, rfl, hbg, hg, hnc, hcm, hcs, htake⟩
  · by_cases hm : m = 0
    · subst hm
      have hn : news = [] := List.eq_nil_of_length_eq_zero (by simpa using hl)
      subst hn
      have h : (Builtin.append_ #[t, t] ty #[.slice none 0 0, .slice (some a) 0 c]).run P w = .ok (.slice none 0 0) w := by
        simp [Builtin.append_, run_underlying ht, sizeOf, typeInfo, hi, Builtin.lenOf, Builtin.firstCells, loadCells, loadCellsFrom]
      rw [h] at hr
      cases hr
      exact .inl rfl
    · rw [run_append_nil (P := P) w t ty e i z ht hi hz a m c news hl hnews (by omega) (by omega) (by have hb := hbytes; simp only [Nat.zero_add] at hb; omega)] at hr
      cases hr
      exact .inr rfl
  · by_cases hroom : n + m ≤ cap
    · have hfit : n * i.size + news.length ≤ cur.size := by rw [hl, hcs, ← Nat.add_mul]; exact Nat.mul_le_mul_right _ hroom
      rw [run_append_room (P := P) w t ty e i ht hi g n cap cur hg a m c news hl hnews h1 hroom hfit] at hr
      cases hr
      exact .inl rfl
    · have holds : ∀ j u, xs[j]? = some u → w.cell? ((⟨g, 0, none⟩ : Addr).add j) = some u := hown.cells (g := g) rfl
      rw [run_append_grow (P := P) w t ty e i z ht hi hz ⟨g, 0, none⟩ n cap xs hown.1 holds a m c news hl hnews (by omega) (by omega) (growslice_fits (by omega) hbytes)] at hr
      cases hr
      exact .inr rfl
/-- Two lists of one's own do not lie in the same block. -/
def Apart (u v : Value) : Prop := ∀ k, u.ownBlock = some k → v.ownBlock ≠ some k
theorem Apart.symm {u v : Value} (h : Apart u v) : Apart v u := fun k hv hu => h k hu hv
theorem Apart.nil (u : Value) : Apart (.slice none 0 0) u := fun k h => by simp [Value.ownBlock] at h
theorem OwnS.lt {w : World} {base : Nat} {v : Value} {l : List Pr} (h : OwnS w base v l) : ∀ k, v.ownBlock = some k → k < w.heap.size := fun k hk => by
  rcases h.2 with ⟨rfl, _⟩ | ⟨g, cap, cur, rfl, hb, hg, _⟩
  · simp [Value.ownBlock] at hk
  · obtain rfl : g = k := by simpa [Value.ownBlock] using hk
    exact (Array.getElem?_eq_some_iff.1 hg).1
theorem OwnS.keep {w w' : World} {base : Nat} {u v : Value} {l : List Pr} (h : OwnS w base u l) (hg : w.grownBy w' v.ownBlock) (ha : Apart u v) : OwnS w' base u l := by
  refine ⟨h.1, ?_⟩
  rcases h.2 with h1 | ⟨g, cap, cur, rfl, hb, hg', h2⟩
  · exact .inl h1
  · refine .inr ⟨g, cap, cur, rfl, hb, ?_, h2⟩
    rw [hg.block g (Array.getElem?_eq_some_iff.1 hg').1 (fun e => ha g rfl e.symm)]
    exact hg'
/-- All of a slice appended: those that lie elsewhere stay, and stay apart. -/
theorem wpL_allK {ops : Array Oper} {r : List Oper} {o : Oper} {a : Act} {Q : Exit → Act → World → Prop} {w : World} {base : Nat} {v : Value} {m l : List Pr} {A : Option Addr} {n cap : Nat} (hgd : Region.wanted o (yielded ops a.tmps) = true) (s x : Operand)
    (ho : o.op = .call { callee := .builtin .append, args := #[s, x], argTypes := #[44, 44] }) (hs : a.eval s = v) (hown : OwnS w base v m) (hx : a.eval x = .slice A n cap) (hl : SlC w A n cap l) (hm : m.length ≤ 100000) (hn : n ≤ 100000) (hb : base ≤ w.heap.size)
    (h : ∀ v' w', OwnS w' base v' (m ++ l) → (∀ w0, Below base w0 w → Below base w0 w') → (∀ u k, OwnS w base u k → Apart u v → OwnS w' base u k ∧ Apart u v') → wpList Tryz.prog ops Q r (a.put o.dst v') w') : wpList Tryz.prog ops Q (o :: r) a w := by
  obtain ⟨i0, hi0, hz0, hz1, hz2⟩ := info_parts infoPa
  have hll := hl.1.1
  cases A with
  | some ad =>
    obtain ⟨v', w', hr, h2, h3, h4⟩ := run_append_own (P := Tryz.prog) w base 44 o.type 56 i0 (.agg #[.int .i64 0, .int .i64 0]) 2 16 Tryz.underlying44 hi0 hz0 hz1 hz2 rfl (by decide) v m.length (prvs m) hown ad n cap (prvs l) (by rw [prvs_len, hll]) (SlS.news hl.1) prvs_one (by unfold maxLen; omega) (by omega) hb
    have hwh := append_where base 44 o.type 56 i0 (.agg #[.int .i64 0, .int .i64 0]) 2 16 Tryz.underlying44 hi0 hz0 hz1 hz2 v m.length (prvs m) hown ad n cap (prvs l) (by rw [prvs_len, hll]) (SlS.news hl.1) prvs_one (by unfold maxLen; omega) (by omega) hr
    refine wpL_go (v := v') (w' := w') hgd ?_ (h v' w' ?_ (fun w0 hB => hB.grown h3 hb fun k hk => ownBlock_ge hown k hk) fun u k hu ha => ⟨hu.keep h3 ha, fun j hj hv => ?_⟩)
    · unfold execOp
      simp only [ho, resolve, invoke, builtin, Sem.run_bind, Sem.run_pure, Result.andThen_ok, List.map_toArray, List.map_cons, List.map_nil, hs, hx, hr]
    · unfold OwnS
      rw [prvs_append, List.length_append, hll]
      exact h2
    · rcases hwh with e | e
      · rw [e] at hv; exact ha j hj hv
      · rw [e] at hv
        have := hu.lt j hj
        have := Option.some.inj hv
        omega
  | none =>
    have hc := hl.2 rfl
    have h0 : l = [] := by
      rcases Nat.eq_zero_or_pos n with h0 | h0
      · exact List.eq_nil_of_length_eq_zero (by rw [hll]; exact h0)
      · obtain ⟨_, _, e, _⟩ := hl.1.2 h0; cases e
    subst h0
    have hn0 : n = 0 := hll.symm
    subst hc; subst hn0
    have hrun := run_append_owned_none (P := Tryz.prog) (w := w) base 44 o.type 56 i0 2 Tryz.underlying44 hi0 v m.length (prvs m) hown
    refine wpL_go (v := v) (w' := w) hgd ?_ (h v w (by rw [List.append_nil]; exact hown) (fun w0 hB => hB) fun u k hu ha => ⟨hu, ha⟩)
    unfold execOp
    simp [ho, resolve, invoke, builtin, hs, hx, hrun, Result.andThen]
theorem one_sl {w : World} {g : Nat} {p : Pr} (h : Box w g [.int .i64 p.a, .int .i64 p.b] 56) : SlC w (some ⟨g, 0, none⟩) 1 1 [p] := by
  refine ⟨⟨rfl, fun _ => ⟨g, 0, rfl, h.lt, fun k t hk j v hv => ?_⟩⟩, fun e => by cases e⟩
  have h1 : k < 1 := get_lt hk
  obtain rfl : k = 0 := by omega
  obtain rfl : p = t := by simpa using hk
  have := h.cell j
  rw [show 0 + 0 * 2 + j = j by omega, this]; exact hv
end Go.Proofs.YtbcjnckejkjfeaaGreat
namespace Go.Proofs.YtbcjnckejkjfeaaGreat
set_option linter.unusedVariables false
set_option linter.unusedSimpArgs false
open Go.RowKit Go.NP
namespace TPr
open TrP TrW TrC TrA TrF TrG TrX TrY TrK THg TCt QVl QVm TMp TrE TrI TAs TPu TMe TPp
section
variable {ops : Array Oper} {r : List Oper} {o : Oper} {a : Act} {Q : Exit → Act → World → Prop} {w : World} {base g : Nat} {v : Value} {m : List Pr} {p : Pr}
/-- A pair appended. -/
theorem wpP_app (hgd : o.guard = none) (s x : Operand) (ho : o.op = .call { callee := .builtin .append, args := #[s, x], argTypes := #[44, 44] }) (hs : a.eval s = v) (hown : OwnS w base v m) (hx : a.eval x = .slice (some ⟨g, 0, none⟩) 1 1) (hB : Box w g (prv p) 56) (hl : m.length ≤ 100000) (hb : base ≤ w.heap.size)
    (h : ∀ v' w', OwnS w' base v' (m ++ [p]) → w.grownBy w' v.ownBlock → (v'.ownBlock = v.ownBlock ∨ v'.ownBlock = some w.heap.size) → (∀ w0, Below base w0 w → Below base w0 w') → wpList Tryz.prog ops Q r (a.put o.dst v') w') : wpList Tryz.prog ops Q (o :: r) a w := by
  obtain ⟨i0, hi0, hz0, hz1, hz2⟩ := info_parts infoPa
  refine wpList_append_own_at _ hgd s x 44 ho base 56 i0 (.agg #[.int .i64 0, .int .i64 0]) 2 16 Tryz.underlying44 hi0 hz0 hz1 hz2 rfl (by decide) v m.length (prvs m) hs hown ⟨g, 0, none⟩ 1 1 (prv p) hx rfl (fun j u hj => ?_) (fun u hu => prv_one u hu) (by unfold maxLen; omega) (by omega) hb ?_
  · have hadd : (⟨g, 0, none⟩ : Addr).add j = ⟨g, 0 + j, none⟩ := by unfold Addr.add; split <;> simp_all
    rw [hadd, Nat.zero_add, hB.cell]; exact hj
  · intro v' w' h1 h2 _ h4
    refine h v' w' ?_ h2 h4 fun w0 hB => hB.grown h2 hb fun k hk => ?_
    · unfold OwnS
      rw [prvs_append, List.length_append]
      have : prvs [p] = prv p := by simp [prvs]
      rw [this]
      exact h1
    · rcases hown.2 with ⟨rfl, _⟩ | ⟨g', cap, cur, rfl, hb', _⟩
      · simp [Value.ownBlock] at hk
      · obtain rfl : g' = k := by simpa [Value.ownBlock] using hk
        exact hb'
end
theorem ownS_kept {w w' : World} {base : Nat} {row : Option Nat} {v : Value} {l : List Pr} (h : OwnS w base v l) (hg : w.grownBy w' row) (hn : ∀ k, v.ownBlock = some k → row ≠ some k) : OwnS w' base v l := by
  refine ⟨h.1, ?_⟩
  rcases h.2 with h1 | ⟨g, cap, cur, rfl, hb, hg', h2⟩
  · exact .inl h1
  · refine .inr ⟨g, cap, cur, rfl, hb, ?_, h2⟩
    rw [hg.block g (Array.getElem?_eq_some_iff.1 hg').1 (fun e => hn g rfl e.symm)]
    exact hg'
/-- While the map is ranged over. -/
structure PO (w wr : World) (b rr c : Nat) (L : List En) (D : DataW Value) (left : Lit → Bool) (cnt : Nat) (o : Value) (ks : List Int) (es : List En) (ol : List Pr) : Prop where
  rg : wr.ranges Tryz.prog 3 RV b rr c D left cnt
  ow : OwnS wr w.heap.size o ol
  ap : o.ownBlock ≠ some rr
  ks_ : ks.Nodup ∧ ∀ x, wfI x → (x ∈ ks ↔ isIn L x = true ∧ left (kl x) = false)
  wf : ∀ x ∈ ks, wfI x
  es_ : es.map (·.n) = ks ∧ ∀ e ∈ es, e ∈ L
  ol_ : ol = es.flatMap (pairsOf L)
  bel : Below w.heap.size w wr
theorem nodup_len {α : Type} [DecidableEq α] : ∀ {l L : List α}, l.Nodup → (∀ x ∈ l, x ∈ L) → l.length ≤ L.length
  | [], L, _, _ => Nat.zero_le _
  | x :: r, L, hn, hs => by
    have hn' := List.nodup_cons.1 hn
    have hx := hs x (List.mem_cons_self ..)
    have h1 := nodup_len (l := r) (L := L.erase x) hn'.2 fun y hy => (List.mem_erase_of_ne fun e => hn'.1 (by rw [← e]; exact hy)).2 (hs y (List.mem_cons_of_mem _ hy))
    have h2 := List.length_erase_of_mem hx
    have h3 := List.length_pos_of_mem hx
    rw [List.length_cons]; omega
theorem len_ok {L es : List En} {ol : List Pr} {ks : List Int} (hr : Rise L) (h1 : ks.Nodup) (h2 : es.map (·.n) = ks ∧ ∀ e ∈ es, e ∈ L) (h3 : ol = es.flatMap (pairsOf L)) : ol.length ≤ L.length * L.length := by
  have hn : es.Nodup := by
    rw [← h2.1] at h1
    exact (List.pairwise_map.1 h1).imp fun hne e => hne (by rw [e])
  have hs : es.length ≤ L.length := nodup_len hn h2.2
  have hl : ∀ e ∈ es, (pairsOf L e).length ≤ L.length := fun e _ => by
    unfold pairsOf meetL tell
    rw [List.length_map]
    refine Nat.le_trans (List.length_filter_le _ _) ?_
    rw [List.length_map]
    exact List.length_filter_le _ _
  rw [h3, List.length_flatMap]
  have : ∀ l : List En, (∀ e ∈ l, (pairsOf L e).length ≤ L.length) → (l.map fun e => (pairsOf L e).length).sum ≤ l.length * L.length := by
    intro l
    induction l with
    | nil => intro _; simp
    | cons x r ih =>
      intro h
      have h1 := h x (List.mem_cons_self ..)
      have h2 := ih fun e he => h e (List.mem_cons_of_mem _ he)
      simp only [List.map_cons, List.sum_cons, List.length_cons, Nat.add_mul]
      omega
  exact Nat.le_trans (this es hl) (Nat.mul_le_mul_right _ hs)
theorem PO.step_ {w wr w' : World} {b rr c cnt cnt' : Nat} {L : List En} {D : DataW Value} {left : Lit → Bool} {o o' : Value} {ks : List Int} {es : List En} {ol ol' : List Pr} {e : En} (h : PO w wr b rr c L D left cnt o ks es ol) (he : e ∈ L) (hl : left (kl e.n) = true) (hw : wfI e.n) (hr : w'.ranges Tryz.prog 3 RV b rr c D (fun z => left z && !z.sameKey (kl e.n)) cnt') (ho : OwnS w' w.heap.size o' ol') (ha : o'.ownBlock ≠ some rr) (hol : ol' = ol ++ pairsOf L e) (hb : Below w.heap.size w w') :
    PO w w' b rr c L D (fun z => left z && !z.sameKey (kl e.n)) cnt' o' (ks ++ [e.n]) (es ++ [e]) ol' := by
  have hx : e.n ∉ ks := fun hm => by
    have := ((h.ks_.2 e.n hw).1 hm).2
    rw [hl] at this; cases this
  refine ⟨hr, ho, ha, ⟨List.nodup_append.2 ⟨h.ks_.1, by simp, fun a ha b hb e' => ?_⟩, fun y hy => ?_⟩, fun y hy => ?_, ⟨by rw [List.map_append, h.es_.1]; rfl, fun y hy => ?_⟩, by rw [hol, h.ol_, List.flatMap_append]; simp, hb⟩
  · rw [List.mem_singleton.1 hb] at e'; exact hx (e' ▸ ha)
  · rw [List.mem_append, List.mem_singleton, h.ks_.2 y hy]
    by_cases q : y = e.n
    · subst q
      have : isIn L e.n = true := isIn_iff.2 ⟨e, he, rfl⟩
      simp [this, Lit.sameKey, kl]
    · simp [q, Lit.sameKey, kl]
  · rcases List.mem_append.1 hy with hy | hy
    · exact h.wf y hy
    · rw [List.mem_singleton.1 hy]; exact hw
  · rcases List.mem_append.1 hy with hy | hy
    · exact h.es_.2 y hy
    · rw [List.mem_singleton.1 hy]; exact he
/-- At the end. -/
theorem PO.done {w wr : World} {b rr c cnt : Nat} {L : List En} {D : DataW Value} {left : Lit → Bool} {o : Value} {ks : List Int} {es : List En} {ol : List Pr} (h : PO w wr b rr c L D left cnt o ks es ol) (hr : Rise L) (hn : ∀ e ∈ L, 1 ≤ e.n ∧ e.n ≤ 4096) (hl : ∀ k, left k = false) : ol.Perm (pairsP L) := by
  have h1 : es.Nodup := by
    have q := h.ks_.1
    rw [← h.es_.1] at q
    exact (List.pairwise_map.1 q).imp fun hne e => hne (by rw [e])
  have h2 : L.Nodup := hr.imp fun hlt e => by rw [e] at hlt; omega
  have hp : es.Perm L := (List.perm_ext_iff_of_nodup h1 h2).2 fun e => ⟨h.es_.2 e, fun he => by
    have h3 := (h.ks_.2 e.n (wf_rng (hn e he))).2 ⟨isIn_iff.2 ⟨e, he, rfl⟩, hl _⟩
    rw [← h.es_.1] at h3
    obtain ⟨e', he', hee⟩ := List.mem_map.1 h3
    rw [← rise_n hr (h.es_.2 e' he') he hee]; exact he'⟩
  rw [h.ol_, ← all_pairs (A := []) (B := L) hr]
  exact hp.flatMap_right _
/-- While one's numbers are gone through. -/
structure PI (w wr : World) (b rr c : Nat) (D : DataW Value) (left : Lit → Bool) (cnt : Nat) (x : Int) (o lv : Value) (lm : List Int) (ol ol2 : List Pr) (j : Nat) : Prop where
  rg : wr.ranges Tryz.prog 3 RV b rr c D left cnt
  ow : OwnS wr w.heap.size o ol2
  ap : o.ownBlock ≠ some rr
  lv_ : OwnV wr 0 3 lv (iv lm)
  ap2 : ∀ k, lv.ownBlock = some k → o.ownBlock ≠ some k
  bel : Below w.heap.size w wr
  ol2_ : ol2 = ol ++ ((lm.take j).filter fun m => decide (x < m)).map fun m => (⟨x, m⟩ : Pr)
theorem take_more {l : List Int} {j : Nat} {y : Int} (h : l[j]? = some y) : l.take (j + 1) = l.take j ++ [y] := by
  have hk := get_lt h
  rw [List.take_succ_eq_append_getElem hk]
  rw [List.getElem?_eq_getElem hk] at h; cases h; rfl
set_option maxRecDepth 100000 in
set_option maxHeartbeats 8000000 in
theorem pairsC {p K : Nat} {mg : Int} {L : List En} {S : Nat → Prop} (w : World) (h : TI w p mg L S K) (hK : K < 80000) (hL : L.length ≤ 250) :
    Calls Tryz.prog 12 #[.pointer (some ⟨p, 0, none⟩)] w fun e w' => (∃ v, e = .returned v ∧ OwnS w' w.heap.size v (pairsP L)) ∧ Below w.heap.size w w' := by
  have HTI := Lib.hid h
  obtain ⟨T, F, al, lv, b, c, pl, h, rfl⟩ := h
  obtain rfl := h.p_
  have c5 : w.cell? ⟨T.p, 5, none⟩ = some (.map (some b)) := by have := TO.mpc h.ts.tx.to; rw [h.ts.tx.mp] at this; exact this
  have hv := h.ts.tx.vm
  have hp := h.lt
  have H0 := Lib.hid h
  clear h
  go_enter Tryz.func12, Tryz.ntmps12
  go_wp2_with (at_range; refine wpL_range (by rfl) _ (by rfl) (by rfl) hv Tryz.underlying57 ?_; intro w1 D hD hR hG hsz)
  go_frame
  obtain ⟨B, hB⟩ : ∃ B, w.heap.size = B := ⟨_, rfl⟩
  have hb0 : b ≠ B := fun e => by have := H0.out.ts.tx.vm.lt; omega
  have hW1 : Below w.heap.size w w1 := (Below.refl _ _).grown hG (Nat.le_refl _) (fun k hk => by cases hk)
  have P0 : PO w w1 b w.heap.size c L D (Maps.has D) (Maps.size D) (.slice none 0 0) [] [] [] := by
    refine ⟨hR, OwnS.nil _ _, fun e => (by cases e), ⟨List.nodup_nil, fun x hx => ?_⟩, fun x hx => (by cases hx), ⟨rfl, fun e he => (by cases he)⟩, rfl, hW1⟩
    have q := (hD x hx).1
    rw [im_some] at q
    constructor
    · intro h; cases h
    · rintro ⟨h1, h2⟩
      obtain ⟨a, ha, _⟩ := H0.out.look_in h1
      rw [ha] at q
      rw [q] at h2; cases h2
  have HD := Lib.hid hD
  rw [hB] at P0 ⊢
  clear hR hG hsz hW1 hD hv c5
  go_loopw [3] (fun o wr => ∃ left cnt ks es ol, PO w wr b B c L D left cnt o ks es ol) (fun _ wr => wr.rangeLeft b B)
  case atStart => exact ⟨_, _, _, _, _, P0⟩
  case round =>
    clear P0
    obtain ⟨left, cnt, ks, es, ol, hP⟩ := hrel
    have HP := Lib.hid hP
    have hrg := hP.rg
    have hDD := HD.out
    clear hP
    go_wp2_with (at_next; refine wpL_next (by rfl) _ (by rfl) (by rfl) hDD hrg ?_ ?_)
    · intro h0 hl
      have hr := HTI.out.rise
      have hok := HTI.out.ok
      have hpm := PO.done HP.out hr (fun e he => (hok e he).1) hl
      have hlen : ol.length ≤ 65536 := by rw [hpm.length_eq]; have := pairs_len L; have := Nat.mul_le_mul hL hL; omega
      have how := HP.out.ow
      have HW := Lib.hid HP.out.bel
      clear hrg hDD HP
      go_wp2_with fail
      refine (QSo.sortC wr how (fun q hq => pairs_ok hr (fun e he => (hok e he).1) q (hpm.mem_iff.1 hq)) hlen).mono ?_
      rintro e w2 ⟨rfl, ⟨r, hr1, hr2, hr3⟩, hb⟩
      have er := sorted_is hr (hr1.trans hpm) hr2
      rw [er] at hr3
      have FIN := Lib.hid (show (∃ v, Ending.returned u3 = .returned v ∧ OwnS w2 w.heap.size v (pairsP L)) ∧ Below w.heap.size w w2 from ⟨⟨u3, rfl, hr3⟩, hb w HW.out⟩)
      clear hr3 hb how hpm hok
      go_wp2_with fail
      exact bodyPost_ret (v := u3) (by simp [results, Tryz.results12, go_sem]) rfl FIN.out
    · intro x v w2 cnt2 hwx hlx hmx hrg2 hlt hg2 hs2 hen
      obtain ⟨a, ha, rfl⟩ : ∃ a, pl x = some a ∧ v = .int .i64 a := by
        unfold im at hmx
        cases hq : pl x with
        | none => rw [hq] at hmx; cases hmx
        | some a => rw [hq] at hmx; exact ⟨a, rfl, by simpa using hmx.symm⟩
      have h0 := H0.out
      obtain ⟨hal, han⟩ := (h0.pls x a).1 ha
      have har := h0.ts.rng a (List.mem_append_left _ (Shape.leafs h0.ts.sh a hal).1)
      obtain ⟨a, rfl⟩ : ∃ n : Nat, a = n := ⟨a.toNat, by omega⟩
      have haN : a < T.N := by omega
      obtain ⟨e, hee⟩ : ∃ e, ent T.m a = e := ⟨_, rfl⟩
      have heL : e ∈ L := by rw [← hee]; exact h0.mem hal
      have hen1 : e.n = x := by rw [← hee]; exact han
      have heb : (T.m a).b = e.b := by rw [← hee]; rfl
      have hW2 : Below w.heap.size w w2 := HP.out.bel.grown hg2 HP.out.bel.size (fun k hk => by cases hk; rw [hB]; exact Nat.le_refl _)
      have h2 := h0.step hW2
      have hT2 : TN w2 T := by
        rcases h2.ts.tx.to with ⟨q, _⟩ | q
        · omega
        · exact q
      have c2 := hT2.nodes
      have lp := (TN.lt hT2).1
      have a0 : 0 ≤ (a : Int) ∧ (a : Int) < T.N := by omega
      have hat : At' w2 T.g (a * 17 + 6) [.int .i64 e.b.lo.x, .int .i64 e.b.lo.y, .int .i64 e.b.lo.z, .int .i64 e.b.hi.x, .int .i64 e.b.hi.y, .int .i64 e.b.hi.z] := fun j u hj => by
        have hj6 : j < 6 := by
          rcases Nat.lt_or_ge j 6 with h | h
          · exact h
          · rw [List.getElem?_eq_none (by exact h)] at hj; cases hj
        rw [Nat.add_assoc]
        refine hT2.cell haN ?_
        show (bdv (T.m a).fat ++ bdv (T.m a).b ++ _)[6 + j]? = _
        rw [heb, List.append_assoc, List.getElem?_append_right (by show 6 ≤ 6 + j; omega)]
        rw [show 6 + j - (bdv (T.m a).fat).length = j by show 6 + j - 6 = j; omega, List.getElem?_append_left (by exact hj6)]
        exact hj
      have hOw2 : OwnS w2 w.heap.size u3 ol := ownS_kept HP.out.ow hg2 fun k hk e => HP.out.ap (by rw [hk]; exact e.symm)
      have HTI2 := Lib.hid (HTI.out.step hW2)
      have HR2 := Lib.hid hrg2; have HW2 := Lib.hid hW2; have HO2 := Lib.hid hOw2
      clear hT2 h2 hrg hDD hg2 hs2 hrg2 hW2 hOw2 h0 har hmx
      go_wp2_with (refine wpL_at (l := [.int .i64 e.b.lo.x, .int .i64 e.b.lo.y, .int .i64 e.b.lo.z, .int .i64 e.b.hi.x, .int .i64 e.b.hi.y, .int .i64 e.b.hi.z]) (by rfl) (by rfl) hat Tryz.underlying38 (by rfl) (by kernel_rfl) (by kernel_rfl) ?_; (conv => arg 5; simp only [Act.put, List.setIfInBounds_toArray, List.set_cons_zero, List.set_cons_succ]))
      refine (tmeetC (x := e.b) w2 HTI2.out hK).mono ?_
      rintro e1 w3 ⟨⟨lv3, rfl, hlv⟩, hS3⟩
      obtain ⟨lm, hlm⟩ : ∃ lm, meetL L e.b = lm := ⟨_, rfl⟩
      rw [hlm] at hlv
      have hlml : lm.length ≤ L.length := by
        rw [← hlm]; unfold meetL tell
        rw [List.length_map]; exact List.length_filter_le _ _
      obtain ⟨A, cap, rfl, _, hA3, _⟩ := hlv.sl
      have elen : (iv lm).length = lm.length := iv_len lm
      rw [elen] at hlv ⊢
      have hrg3 := HR2.out.kept (w' := w3) (row := none) ⟨hS3.os, hS3.tape, hS3.output, hS3.size, fun k hk _ => hS3.block k hk⟩ (by simp) (by simp)
      have PI0 : PI w w3 b B c D (fun z => left z && !z.sameKey (kl x)) cnt2 x u3 (.slice A lm.length cap) lm ol ol 0 := by
        refine ⟨hrg3, HO2.out.step hS3, HP.out.ap, hlv.mono (Nat.zero_le _), fun k hk e => ?_, HW2.out.trans (hS3.mono HW2.out.size), by simp⟩
        have h1 := (hlv.lt k hk).1
        have h2 := HO2.out.lt k e
        omega
      have HPI := Lib.hid PI0
      clear hlv hrg3 PI0 hS3 HO2 HW2 HR2 HTI2 hat c2 lp hen
      go_wp2_with fail
      have hol : ol.length ≤ 62500 := Nat.le_trans (len_ok HTI.out.rise HP.out.ks_.1 HP.out.es_ HP.out.ol_) (Nat.mul_le_mul hL hL)
      go_loopw [3, 38] (fun o i wx => ∃ j ol2, i = .int .i64 ((j : Nat) : Int) ∧ j ≤ lm.length ∧ PI w wx b B c D (fun z => left z && !z.sameKey (kl x)) cnt2 x o (.slice A lm.length cap) lm ol ol2 j) (fun _ i _ => lm.length - (RowKit.intOf i).toNat)
      case atStart => exact ⟨0, ol, rfl, Nat.zero_le _, HPI.out⟩
      case round =>
        clear HPI
        obtain ⟨j, ol2, rfl, hj, hPI⟩ := hrel
        by_cases hjl : j < lm.length
        · have t1 : decide ((j : Int) < (lm.length : Int)) = true := by simpa using hjl
          obtain ⟨y, hy⟩ : ∃ y, lm[j]? = some y := ⟨_, List.getElem?_eq_getElem hjl⟩
          obtain ⟨g, rfl⟩ : ∃ g, A = some ⟨g, 0, none⟩ := by
            rcases hA3 with ⟨_, _, e0⟩ | q
            · have : lm = [] := by simpa [iv] using e0
              rw [this] at hjl; exact absurd hjl (by simp)
            · exact q
          have hcy : wr.cell? ⟨g, j, none⟩ = some (.int .i64 y) := by
            obtain ⟨A', cap', e', hs, _, _⟩ := hPI.lv_.sl
            rw [elen] at e' hs
            obtain ⟨b', off, e2, _, hc⟩ := hs.2 (by omega)
            have eA : some ⟨g, 0, none⟩ = A' := by injection e'
            rw [← eA] at e2
            cases e2
            have := hc j (.int .i64 y) (by unfold iv; rw [List.getElem?_map, hy]; rfl)
            rwa [Nat.zero_add] at this
          have j0 : 0 ≤ (j : Int) ∧ (j : Int) < (lm.length : Int) := by omega
          have v1 : IntKind.i64.wrap ((j : Int) + 1) = ((j + 1 : Nat) : Int) := by rw [IntKind.wrap_i64]; omega
          have HI := Lib.hid hPI
          have hwx := hPI.bel.size
          clear hPI
          by_cases hxy : x < y
          · have t2 : decide (x < y) = true := decide_eq_true hxy
            have hS4 : Below wr.heap.size wr (wr.alloc (.cells (prv ⟨x, y⟩).toArray 56)) := (Below.refl _ _).alloc (Nat.le_refl _) _
            have hO4 := HI.out.ow.step hS4
            have hB4 : Box (wr.alloc (.cells (prv ⟨x, y⟩).toArray 56)) wr.heap.size (prv ⟨x, y⟩) 56 := Box.new rfl
            have hl4 : ol2.length ≤ 100000 := by
              rw [HI.out.ol2_, List.length_append, List.length_map]
              have h1 := List.length_filter_le (fun m => decide (x < m)) (lm.take j)
              have h2 := List.length_take_le j lm
              omega
            have hb4 : w.heap.size ≤ (wr.alloc (.cells (prv ⟨x, y⟩).toArray 56)).heap.size := by have := hS4.size; omega
            have HS4 := Lib.hid hS4
            clear hS4
            go_wp2_with (at_builtin; refine wpP_app (p := ⟨x, y⟩) (by rfl) (.tmp 45) (.tmp 49) (by rfl) (by rfl) hO4 (by rfl) hB4 hl4 hb4 ?_; intro v6 w6 hO6 hG6 hL6 hB6)
            have hge := ownBlock_ge HI.out.ow
            have hsz4 := HS4.out.size
            refine ⟨⟨j + 1, _, rfl, by omega, ⟨(HI.out.rg.alloc _).kept hG6 (fun e => ?_) (fun e => HI.out.ap e.symm), hO6, fun e => ?_, (HI.out.lv_.step HS4.out).block (fun k hk hlt => hG6.block k hlt fun e => HI.out.ap2 k hk e.symm), fun k hk e => ?_, hB6 w (HI.out.bel.trans (HS4.out.mono hwx)), ?_⟩⟩, by simp [RowKit.intOf]; omega⟩
            · have := hge b e.symm
              have := H0.out.ts.tx.vm.lt; omega
            · rcases hL6 with h | h
              · exact HI.out.ap (by rw [← h]; exact e)
              · rw [h] at e; injection e with e
                have e3 : (wr.alloc (.cells (prv ⟨x, y⟩).toArray 56)).heap.size = B := e
                have := HI.out.rg.lt; omega
            · rcases hL6 with h | h
              · exact HI.out.ap2 k hk (by rw [← h]; exact e)
              · rw [h] at e; injection e with e
                have e3 : (wr.alloc (.cells (prv ⟨x, y⟩).toArray 56)).heap.size = k := e
                have := (HI.out.lv_.lt k hk).2; omega
            · rw [HI.out.ol2_, take_more hy, List.filter_append, List.map_append, List.append_assoc]
              simp [hxy]
          · have t2 : decide (x < y) = false := decide_eq_false hxy
            go_wp2_with fail
            exact ⟨⟨j + 1, ol2, rfl, by omega, ⟨HI.out.rg, HI.out.ow, HI.out.ap, HI.out.lv_, HI.out.ap2, HI.out.bel, by rw [HI.out.ol2_, take_more hy, List.filter_append]; simp [hxy]⟩⟩, by simp [RowKit.intOf]; omega⟩
        · obtain rfl : j = lm.length := by omega
          have t1 : decide ((lm.length : Int) < (lm.length : Int)) = false := by simp
          have HI := Lib.hid hPI
          clear hPI
          go_wp2_with fail
          have h1 := PO.step_ HP.out heL (by rw [hen1]; exact hlx) (by rw [hen1]; exact hwx) (by rw [hen1]; exact HI.out.rg) HI.out.ow HI.out.ap (by
            rw [HI.out.ol2_, List.take_length]
            unfold pairsOf
            rw [hlm, hen1]) HI.out.bel
          exact ⟨⟨_, _, _, _, _, h1⟩, by rw [h1.rg.left_eq, HP.out.rg.left_eq]; exact hlt⟩
end TPr
end Go.Proofs.YtbcjnckejkjfeaaGreat
