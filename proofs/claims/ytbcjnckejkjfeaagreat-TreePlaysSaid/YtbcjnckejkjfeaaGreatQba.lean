/- The document's pairs of a tree. Condition: the list is as told, and not too long. The same lists are told to be the same: the walks. Condition: they are the same, and not too long. A call done on both trees: what stays. Condition: the trees are as told. -/
import Derived.Test.YtbcjnckejkjfeaaGreatQaw
import Derived.Test.YtbcjnckejkjfeaaGreatQap
import Derived.Test.YtbcjnckejkjfeaaGreatQaz
import Derived.Test.YtbcjnckejkjfeaaGreatQal
namespace Go.Proofs.YtbcjnckejkjfeaaGreat
set_option linter.unusedVariables false
set_option linter.unusedSimpArgs false
open Go.RowKit Go.NP
namespace DPr
open TrE DSl DPl DMe TPp TPr
def rowP (e : En) (R : List En) : List Pr := (R.filter fun x => meet e.b x.b).map fun x => (⟨e.n, x.n⟩ : Pr)
theorem drop_at {L : List En} {k : Nat} {e : En} (h : L[k]? = some e) : L.drop k = e :: L.drop (k + 1) := by
  have hk := get_lt h
  rw [List.drop_eq_getElem_cons hk]
  rw [List.getElem?_eq_getElem hk] at h; cases h; rfl
theorem pairs_drop {L : List En} {k : Nat} {e : En} (h : L[k]? = some e) : pairsP (L.drop k) = rowP e (L.drop (k + 1)) ++ pairsP (L.drop (k + 1)) := by rw [drop_at h]; rfl
theorem row_yes {L : List En} {e x : En} {j : Nat} (h : L[j]? = some x) (c : meet e.b x.b = true) : rowP e (L.drop j) = ⟨e.n, x.n⟩ :: rowP e (L.drop (j + 1)) := by unfold rowP; rw [drop_at h, List.filter_cons, if_pos c]; rfl
theorem row_nay {L : List En} {e x : En} {j : Nat} (h : L[j]? = some x) (c : meet e.b x.b = false) : rowP e (L.drop j) = rowP e (L.drop (j + 1)) := by unfold rowP; rw [drop_at h, List.filter_cons, if_neg (by rw [c]; decide)]
set_option maxRecDepth 100000 in
set_option maxHeartbeats 8000000 in
theorem rpairsC {A : Option Addr} {n : Nat} (cap : Nat) (mg : Int) {L : List En} (w : World) (h : SlE w A n L) (hn : n ≤ 250) :
    Calls Tryz.prog 13 #[.agg #[.int .i64 mg, .slice A n cap]] w fun e w' => (∃ v, e = .returned v ∧ OwnS w' w.heap.size v (pairsP L)) ∧ Below w.heap.size w w' := by
  have hln := h.1
  have H := Lib.hid h
  have hb : Below w.heap.size w (w.alloc (.cells #[.int .i64 mg, .slice A n cap] 30)) := (Below.refl _ _).alloc (Nat.le_refl _) _
  have hT : Box (w.alloc (.cells #[.int .i64 mg, .slice A n cap] 30)) w.heap.size [.int .i64 mg, .slice A n cap] 30 := Box.new rfl
  have hpl : (pairsP L).length ≤ 100000 := by have h1 := pairs_len L; have h2 := Nat.mul_le_mul (hln ▸ hn) (hln ▸ hn : L.length ≤ 250); omega
  clear h
  go_enter Tryz.func13, Tryz.ntmps13
  go_wp2_with fail
  revert hb hT
  generalize (w.alloc (.cells #[.int .i64 mg, .slice A n cap] 30)) = w1
  intro hb hT
  go_loopw [3, 4] (fun v i wr => ∃ (k : Nat) (acc : List Pr), i = .int .i64 (k : Int) ∧ k ≤ n ∧ OwnS wr w1.heap.size v acc ∧ acc ++ pairsP (L.drop k) = pairsP L ∧ Below w1.heap.size w1 wr) (fun _ i _ => n - (RowKit.intOf i).toNat)
  case atStart => exact ⟨0, [], rfl, Nat.zero_le _, OwnS.nil _ _, rfl, Below.refl _ _⟩
  case round =>
    obtain ⟨k, acc, rfl, hk, hO, hA, hS⟩ := hrel
    have ct := (hT.step hS).cell 1
    simp only [List.getElem?_cons_zero, List.getElem?_cons_succ] at ct
    by_cases hlt : k < n
    · have t1 : decide ((k : Int) < (n : Int)) = true := by simpa using hlt
      obtain ⟨e, he⟩ : ∃ e, L[k]? = some e := ⟨_, List.getElem?_eq_getElem (by omega)⟩
      have hA2 : acc ++ (rowP e (L.drop (k + 1)) ++ pairsP (L.drop (k + 1))) = pairsP L := by rw [← pairs_drop he]; exact hA
      have v1 : IntKind.i64.wrap ((k : Int) + 1) = ((k + 1 : Nat) : Int) := by rw [IntKind.wrap_i64]; omega
      have HE := Lib.hid he
      clear he hA
      go_wp2_with fail
      go_loopw [3, 5] (fun v i wr => ∃ (j : Nat) (acc : List Pr), i = .int .i64 (j : Int) ∧ k + 1 ≤ j ∧ j ≤ n ∧ OwnS wr w1.heap.size v acc ∧ acc ++ (rowP e (L.drop j) ++ pairsP (L.drop (k + 1))) = pairsP L ∧ Below w1.heap.size w1 wr) (fun _ i _ => n - (RowKit.intOf i).toNat)
      case atStart => exact ⟨k + 1, acc, rfl, Nat.le_refl _, hlt, hO, hA2, hS⟩
      case round =>
        clear hO hA2 hS ct
        obtain ⟨j, acc2, rfl, hkj, hj, hO, hA, hS⟩ := hrel
        have ct := (hT.step hS).cell 1
        simp only [List.getElem?_cons_zero, List.getElem?_cons_succ] at ct
        by_cases hjn : j < n
        · have t2 : decide ((j : Int) < (n : Int)) = true := by simpa using hjn
          obtain ⟨x, hx⟩ : ∃ x, L[j]? = some x := ⟨_, List.getElem?_eq_getElem (by omega)⟩
          obtain ⟨b, off, rfl, hbl, hat0⟩ := H.out.2 (by omega)
          have hW := hb.trans (hS.mono hb.size)
          have hat := hat0.step hbl hW
          have AE := Lib.hid (DMe.EAt.b hat HE.out)
          have AX := Lib.hid (DMe.EAt.b hat hx)
          have hbw : b < wr.heap.size := by have := hW.size; omega
          have hgw : w.heap.size < wr.heap.size := (hT.step hS).lt
          have k0 : 0 ≤ (k : Int) ∧ (k : Int) < (n : Int) := by omega
          have j0 : 0 ≤ (j : Int) ∧ (j : Int) < (n : Int) := by omega
          have v2 : IntKind.i64.wrap ((j : Int) + 1) = ((j + 1 : Nat) : Int) := by rw [IntKind.wrap_i64]; omega
          have HX := Lib.hid hx; have HAT := Lib.hid hat; have HO := Lib.hid hO; have HS := Lib.hid hS; have HA := Lib.hid hA
          clear hat0 hat hx hO hS hW hA
          cases hq : meet e.b x.b
          · have HM := Lib.hid (fun u => (rmeetC e.b x.b u).eq (v' := .bool false) (by rw [hq]))
            have hA' := HA.out
            rw [row_nay HX.out hq] at hA'
            clear hq
            go_wp2_with fail
            refine wp_region_ph [(13, .free [])] (by kernel_rfl) (by kernel_rfl) ?_
            refine Ph.belowd ?_
            simp only [List.drop_succ_cons, List.drop_zero, List.take_succ_cons, List.take_zero, Nat.reduceSub, Nat.sub_zero]
            iterate 5 (refine SeqO.val (v := ?_) (by rfl) (by rfl) (fun w1 hS => ?_) ?_; rotate_left; (· obtain ⟨hc, hcf⟩ := bcell hS; go_simp; try with_reducible rfl); simp only [Act.put, List.setIfInBounds_toArray, List.set_cons_zero, List.set_cons_succ])
            refine SeqO.at (l := [.int .i64 e.b.lo.x, .int .i64 e.b.lo.y, .int .i64 e.b.lo.z, .int .i64 e.b.hi.x, .int .i64 e.b.hi.y, .int .i64 e.b.hi.z]) (by rfl) (by rfl) hbw AE.out Tryz.underlying38 (by rfl) (by kernel_rfl) (by rfl) (by rfl) ?_
            simp only [Act.put, List.setIfInBounds_toArray, List.set_cons_zero, List.set_cons_succ]
            iterate 5 (refine SeqO.val (v := ?_) (by rfl) (by rfl) (fun w1 hS => ?_) ?_; rotate_left; (· obtain ⟨hc, hcf⟩ := bcell hS; go_simp; try with_reducible rfl); simp only [Act.put, List.setIfInBounds_toArray, List.set_cons_zero, List.set_cons_succ])
            refine SeqO.at (l := [.int .i64 x.b.lo.x, .int .i64 x.b.lo.y, .int .i64 x.b.lo.z, .int .i64 x.b.hi.x, .int .i64 x.b.hi.y, .int .i64 x.b.hi.z]) (by rfl) (by rfl) hbw AX.out Tryz.underlying38 (by rfl) (by kernel_rfl) (by rfl) (by rfl) ?_
            simp only [Act.put, List.setIfInBounds_toArray, List.set_cons_zero, List.set_cons_succ]
            refine SeqO.callv (by rfl) (by rfl) (by rfl) cf31 (by simp [Act.eval]) (fun w1 hS => HM.out w1) ?_
            simp only [Act.put, List.setIfInBounds_toArray, List.set_cons_zero, List.set_cons_succ]
            refine SeqO.nil0 fun w8 hS8 => ?_
            refine Ph.last ?_
            simp only [List.drop_succ_cons, List.drop_zero, List.take_succ_cons, List.take_zero, Nat.reduceSub, Nat.sub_zero]
            refine wpList_nil ?_
            have hO8 := HO.out.step hS8
            have hS9 := HS.out.trans (hS8.mono HS.out.size)
            clear ct hbw hgw AE AX HX HAT HO HS HM hS8 HA
            go_wp2_with fail
            exact ⟨⟨j + 1, acc2, rfl, by omega, by omega, hO8, hA', hS9⟩, by simp [RowKit.intOf]; omega⟩
          · have HM := Lib.hid (fun u => (rmeetC e.b x.b u).eq (v' := .bool true) (by rw [hq]))
            have hA' : (acc2 ++ [⟨e.n, x.n⟩]) ++ (rowP e (L.drop (j + 1)) ++ pairsP (L.drop (k + 1))) = pairsP L := by
              have := HA.out
              rw [row_yes HX.out hq] at this
              simpa using this
            have hl4 : acc2.length ≤ 100000 := by have := congrArg List.length hA'; simp only [List.length_append] at this; omega
            have HA2 := Lib.hid hA'
            clear hq hA' HA
            go_wp2_with fail
            refine wp_region_ph [(13, .free [])] (by kernel_rfl) (by kernel_rfl) ?_
            refine Ph.belowd ?_
            simp only [List.drop_succ_cons, List.drop_zero, List.take_succ_cons, List.take_zero, Nat.reduceSub, Nat.sub_zero]
            iterate 5 (refine SeqO.val (v := ?_) (by rfl) (by rfl) (fun w1 hS => ?_) ?_; rotate_left; (· obtain ⟨hc, hcf⟩ := bcell hS; go_simp; try with_reducible rfl); simp only [Act.put, List.setIfInBounds_toArray, List.set_cons_zero, List.set_cons_succ])
            refine SeqO.at (l := [.int .i64 e.b.lo.x, .int .i64 e.b.lo.y, .int .i64 e.b.lo.z, .int .i64 e.b.hi.x, .int .i64 e.b.hi.y, .int .i64 e.b.hi.z]) (by rfl) (by rfl) hbw AE.out Tryz.underlying38 (by rfl) (by kernel_rfl) (by rfl) (by rfl) ?_
            simp only [Act.put, List.setIfInBounds_toArray, List.set_cons_zero, List.set_cons_succ]
            iterate 5 (refine SeqO.val (v := ?_) (by rfl) (by rfl) (fun w1 hS => ?_) ?_; rotate_left; (· obtain ⟨hc, hcf⟩ := bcell hS; go_simp; try with_reducible rfl); simp only [Act.put, List.setIfInBounds_toArray, List.set_cons_zero, List.set_cons_succ])
            refine SeqO.at (l := [.int .i64 x.b.lo.x, .int .i64 x.b.lo.y, .int .i64 x.b.lo.z, .int .i64 x.b.hi.x, .int .i64 x.b.hi.y, .int .i64 x.b.hi.z]) (by rfl) (by rfl) hbw AX.out Tryz.underlying38 (by rfl) (by kernel_rfl) (by rfl) (by rfl) ?_
            simp only [Act.put, List.setIfInBounds_toArray, List.set_cons_zero, List.set_cons_succ]
            refine SeqO.callv (by rfl) (by rfl) (by rfl) cf31 (by simp [Act.eval]) (fun w1 hS => HM.out w1) ?_
            simp only [Act.put, List.setIfInBounds_toArray, List.set_cons_zero, List.set_cons_succ]
            refine SeqO.nil0 fun w8 hS8 => ?_
            refine Ph.last ?_
            simp only [List.drop_succ_cons, List.drop_zero, List.take_succ_cons, List.take_zero, Nat.reduceSub, Nat.sub_zero]
            refine wpList_nil ?_
            have hS9 := HS.out.trans (hS8.mono HS.out.size)
            have ct8 := (hT.step hS9).cell 1
            simp only [List.getElem?_cons_zero, List.getElem?_cons_succ] at ct8
            have ce : w8.cell? ⟨b, off + k * 13, none⟩ = some (.int .i64 e.n) := EAt.n (HAT.out.step hbw hS8) HE.out
            have cx : w8.cell? ⟨b, off + j * 13, none⟩ = some (.int .i64 x.n) := EAt.n (HAT.out.step hbw hS8) HX.out
            have hb8 : b < w8.heap.size := by have := hS8.size; omega
            have hg8 : w.heap.size < w8.heap.size := by have := hS8.size; omega
            have HO8 := Lib.hid (HO.out.step hS8)
            have HS9 := Lib.hid hS9
            clear ct hbw hgw AE AX HX HAT HO HS HM hS8 hS9
            go_wp2_with fail
            refine wp_region_ph [(1, .pure), (13, .free [])] (by kernel_rfl) (by kernel_rfl) ?_
            refine Ph.pur (v := u3) (by rfl) (by rfl) ?hQ (by rfl) (fun w => by go_simp) ?_
            case hQ => intro c a v w h; exact h
            simp only [Act.put, List.setIfInBounds_toArray, List.set_cons_zero, List.set_cons_succ]
            refine Ph.belowd ?_
            simp only [List.drop_succ_cons, List.drop_zero, List.take_succ_cons, List.take_zero, Nat.reduceSub, Nat.sub_zero]
            iterate 12 (refine SeqO.val (v := ?_) (by rfl) (by rfl) (fun w1 hS => ?_) ?_; rotate_left; (· obtain ⟨hc, hcf⟩ := bcell hS; go_simp; try with_reducible rfl); simp only [Act.put, List.setIfInBounds_toArray, List.set_cons_zero, List.set_cons_succ])
            refine SeqO.nil0 fun w10 hS10 => ?_
            refine Ph.last ?_
            simp only [List.drop_succ_cons, List.drop_zero, List.take_succ_cons, List.take_zero, Nat.reduceSub, Nat.sub_zero]
            have hN : Below w10.heap.size w10 (w10.alloc (.cells [.int .i64 e.n, .int .i64 x.n].toArray 56)) := (Below.refl _ _).alloc (Nat.le_refl _) _
            have hO1 := (HO8.out.step hS10).step hN
            have hB1 : Box (w10.alloc (.cells [.int .i64 e.n, .int .i64 x.n].toArray 56)) w10.heap.size (prv ⟨e.n, x.n⟩) 56 := Box.new rfl
            have hS11 := HS9.out.trans (hS10.mono HS9.out.size)
            have hw8 : w1.heap.size ≤ (w10.alloc (.cells [.int .i64 e.n, .int .i64 x.n].toArray 56)).heap.size := by have := hN.size; have := hS11.size; omega
            have HS12 := Lib.hid (hS11.trans (hN.mono hS11.size))
            clear hS10 HS9 HO8 hN hS11 ct8 ce cx hb8 hg8
            go_wp2_with (at_builtin; refine wpP_app (p := ⟨e.n, x.n⟩) (by rfl) (.tmp 35) (.tmp 49) (by rfl) (by rfl) hO1 (by rfl) hB1 hl4 hw8 ?_; intro v6 w6 hO6 hG6 hL6 hB6)
            have hS6 := hB6 _ HS12.out
            exact ⟨⟨j + 1, _, rfl, by omega, by omega, hO6, HA2.out, hS6⟩, by simp [RowKit.intOf]; omega⟩
        · obtain rfl : j = n := by omega
          have t2 : decide ((j : Int) < (j : Int)) = false := by simp
          have hA3 : acc2 ++ pairsP (L.drop (k + 1)) = pairsP L := by
            have : rowP e (L.drop j) = [] := by rw [List.drop_of_length_le (by omega)]; rfl
            rw [this, List.nil_append] at hA; exact hA
          clear hA
          go_wp2_with fail
          exact ⟨⟨k + 1, acc2, rfl, by omega, hO, hA3, hS⟩, by simp [RowKit.intOf]; omega⟩
    · obtain rfl : k = n := by omega
      have t1 : decide ((k : Int) < (k : Int)) = false := by simp
      have hA3 : acc = pairsP L := by
        rw [List.drop_of_length_le (by omega)] at hA
        simpa [pairsP] using hA
      subst hA3
      go_wp2_with fail
      exact bodyPost_ret (v := u3) (by simp [results, Tryz.results13, go_sem]) rfl ⟨⟨_, rfl, hO.mono hb.size⟩, hb.trans (hS.mono hb.size)⟩
end DPr
end Go.Proofs.YtbcjnckejkjfeaaGreat
namespace Go.Proofs.YtbcjnckejkjfeaaGreat
set_option linter.unusedVariables false
set_option linter.unusedSimpArgs false
open Go.RowKit Go.NP
namespace TSm
open TrX QVl
set_option maxRecDepth 100000 in
set_option maxHeartbeats 4000000 in
theorem sameIntsC {v u : Value} {base base' : Nat} {l : List Int} (w : World) (h : OwnV w base 3 v (iv l)) (h' : OwnV w base' 3 u (iv l)) (hl : l.length ≤ 100000) : RetB Tryz.prog 23 #[v, u] w (.bool true) := by
  obtain ⟨A, cap, rfl, hs, _, _⟩ := h.sl
  obtain ⟨A', cap', rfl, hs', _, _⟩ := h'.sl
  have elen : (iv l).length = l.length := iv_len l
  rw [elen] at hs hs' ⊢
  clear h h'
  obtain ⟨m, hm⟩ : ∃ m, l.length = m := ⟨_, rfl⟩
  have HM := Lib.hid hm; have HS := Lib.hid hs; have HS' := Lib.hid hs'
  rw [hm]
  clear hs hs'
  unfold RetB
  go_enter Tryz.func23, Tryz.ntmps23
  go_wp2_with fail
  go_loopw [5] (fun i wr => ∃ (k : Nat), i = .int .i64 (k : Int) ∧ k ≤ m ∧ Below w.heap.size w wr) (fun i _ => m - (RowKit.intOf i).toNat)
  case atStart => exact ⟨0, rfl, Nat.zero_le _, Below.refl _ _⟩
  case round =>
    obtain ⟨k, rfl, hk, hS⟩ := hrel
    by_cases hlt : k < m
    · have t1 : decide ((k : Int) < (m : Int)) = true := by simpa using hlt
      obtain ⟨x, hx⟩ : ∃ x, l[k]? = some x := ⟨_, List.getElem?_eq_getElem (by omega)⟩
      obtain ⟨b, off, rfl, hb, hcell⟩ := HS.out.2 (by omega)
      obtain ⟨b', off', rfl, hb', hcell'⟩ := HS'.out.2 (by omega)
      have cx : wr.cell? ⟨b, off + k, none⟩ = some (.int .i64 x) := by rw [(bcell hS).1 _ _ hb]; exact hcell k _ (by unfold iv; rw [List.getElem?_map, hx]; rfl)
      have cx' : wr.cell? ⟨b', off' + k, none⟩ = some (.int .i64 x) := by rw [(bcell hS).1 _ _ hb']; exact hcell' k _ (by unfold iv; rw [List.getElem?_map, hx]; rfl)
      have hbw : b < wr.heap.size := by have := hS.size; omega
      have hbw' : b' < wr.heap.size := by have := hS.size; omega
      have k0 : 0 ≤ (k : Int) ∧ (k : Int) < (m : Int) := by omega
      have v1 : IntKind.i64.wrap ((k : Int) + 1) = ((k + 1 : Nat) : Int) := by rw [IntKind.wrap_i64]; omega
      have HSx := Lib.hid hS
      clear hcell hcell' hS
      go_wp2_with fail
      refine wp_region_ph [(9, .free [])] (by kernel_rfl) (by kernel_rfl) ?_
      refine Ph.belowd ?_
      simp only [List.drop_succ_cons, List.drop_zero, List.take_succ_cons, List.take_zero, Nat.reduceSub, Nat.sub_zero]
      iterate 9 (refine SeqO.val (v := ?_) (by rfl) (by rfl) (fun w1 hS => ?_) ?_; rotate_left; (· obtain ⟨hc, hcf⟩ := bcell hS; go_simp; try with_reducible rfl); simp only [Act.put, List.setIfInBounds_toArray, List.set_cons_zero, List.set_cons_succ])
      refine SeqO.nil0 fun w8 hS8 => ?_
      refine Ph.last ?_
      simp only [List.drop_succ_cons, List.drop_zero, List.take_succ_cons, List.take_zero, Nat.reduceSub, Nat.sub_zero]
      refine wpList_nil ?_
      have hS9 := HSx.out.trans (hS8.mono HSx.out.size)
      clear cx cx' hbw hbw' HSx hS8
      go_wp2_with fail
      exact ⟨⟨k + 1, rfl, by omega, hS9⟩, by simp [RowKit.intOf]; omega⟩
    · obtain rfl : k = m := by omega
      have t1 : decide ((k : Int) < (k : Int)) = false := by simp
      go_wp2_with fail
      exact bodyPost_ret (v := .bool true) (by simp [results, Tryz.results23, go_sem]) rfl ⟨rfl, hS⟩
set_option maxRecDepth 100000 in
set_option maxHeartbeats 4000000 in
theorem samePairsC {v u : Value} {base base' : Nat} {l : List Pr} (w : World) (h : OwnS w base v l) (h' : OwnS w base' u l) (hl : l.length ≤ 100000) : RetB Tryz.prog 11 #[v, u] w (.bool true) := by
  obtain ⟨A, cap, rfl, hs⟩ := h.sl
  obtain ⟨A', cap', rfl, hs'⟩ := h'.sl
  clear h h'
  obtain ⟨m, hm⟩ : ∃ m, l.length = m := ⟨_, rfl⟩
  have HM := Lib.hid hm; have HS := Lib.hid hs; have HS' := Lib.hid hs'
  rw [hm]
  clear hs hs'
  unfold RetB
  go_enter Tryz.func11, Tryz.ntmps11
  go_wp2_with fail
  go_loopw [5] (fun i wr => ∃ (k : Nat), i = .int .i64 (k : Int) ∧ k ≤ m ∧ Below w.heap.size w wr) (fun i _ => m - (RowKit.intOf i).toNat)
  case atStart => exact ⟨0, rfl, Nat.zero_le _, Below.refl _ _⟩
  case round =>
    obtain ⟨k, rfl, hk, hS⟩ := hrel
    by_cases hlt : k < m
    · have t1 : decide ((k : Int) < (m : Int)) = true := by simpa using hlt
      obtain ⟨x, hx⟩ : ∃ x, l[k]? = some x := ⟨_, List.getElem?_eq_getElem (by omega)⟩
      obtain ⟨b, off, rfl, hb, hcell⟩ := HS.out.2 (by omega)
      obtain ⟨b', off', rfl, hb', hcell'⟩ := HS'.out.2 (by omega)
      have HA := Lib.hid (show At' wr b (off + k * 2) [.int .i64 x.a, .int .i64 x.b] from (hcell k x hx).step hb hS)
      have HA' := Lib.hid (show At' wr b' (off' + k * 2) [.int .i64 x.a, .int .i64 x.b] from (hcell' k x hx).step hb' hS)
      have HB := Lib.hid (show b < wr.heap.size by have := hS.size; omega)
      have HB' := Lib.hid (show b' < wr.heap.size by have := hS.size; omega)
      have k0 : 0 ≤ (k : Int) ∧ (k : Int) < (m : Int) := by omega
      have v1 : IntKind.i64.wrap ((k : Int) + 1) = ((k + 1 : Nat) : Int) := by rw [IntKind.wrap_i64]; omega
      have HSx := Lib.hid hS
      clear hcell hcell' hS
      go_wp2_with fail
      refine wp_region_ph [(9, .free [])] (by kernel_rfl) (by kernel_rfl) ?_
      refine Ph.belowd ?_
      simp only [List.drop_succ_cons, List.drop_zero, List.take_succ_cons, List.take_zero, Nat.reduceSub, Nat.sub_zero]
      iterate 3 (refine SeqO.val (v := ?_) (by rfl) (by rfl) (fun w1 hS => ?_) ?_; rotate_left; (· obtain ⟨hc, hcf⟩ := bcell hS; go_simp; try with_reducible rfl); simp only [Act.put, List.setIfInBounds_toArray, List.set_cons_zero, List.set_cons_succ])
      refine SeqO.at (l := [.int .i64 x.a, .int .i64 x.b]) (by rfl) (by rfl) HB.out HA.out Tryz.underlying56 (by rfl) (by kernel_rfl) (by rfl) (by rfl) ?_
      simp only [Act.put, List.setIfInBounds_toArray, List.set_cons_zero, List.set_cons_succ]
      iterate 3 (refine SeqO.val (v := ?_) (by rfl) (by rfl) (fun w1 hS => ?_) ?_; rotate_left; (· obtain ⟨hc, hcf⟩ := bcell hS; go_simp; try with_reducible rfl); simp only [Act.put, List.setIfInBounds_toArray, List.set_cons_zero, List.set_cons_succ])
      refine SeqO.at (l := [.int .i64 x.a, .int .i64 x.b]) (by rfl) (by rfl) HB'.out HA'.out Tryz.underlying56 (by rfl) (by kernel_rfl) (by rfl) (by rfl) ?_
      simp only [Act.put, List.setIfInBounds_toArray, List.set_cons_zero, List.set_cons_succ]
      iterate 1 (refine SeqO.val (v := ?_) (by rfl) (by rfl) (fun w1 hS => ?_) ?_; rotate_left; (· obtain ⟨hc, hcf⟩ := bcell hS; go_simp; try with_reducible rfl); simp only [Act.put, List.setIfInBounds_toArray, List.set_cons_zero, List.set_cons_succ])
      refine SeqO.nil0 fun w8 hS8 => ?_
      refine Ph.last ?_
      simp only [List.drop_succ_cons, List.drop_zero, List.take_succ_cons, List.take_zero, Nat.reduceSub, Nat.sub_zero]
      refine wpList_nil ?_
      have hS9 := HSx.out.trans (hS8.mono HSx.out.size)
      clear HA HA' HB HB' HSx hS8
      go_wp2_with fail
      exact ⟨⟨k + 1, rfl, by omega, hS9⟩, by simp [RowKit.intOf]; omega⟩
    · obtain rfl : k = m := by omega
      have t1 : decide ((k : Int) < (k : Int)) = false := by simp
      go_wp2_with fail
      exact bodyPost_ret (v := .bool true) (by simp [results, Tryz.results11, go_sem]) rfl ⟨rfl, hS⟩
end TSm
end Go.Proofs.YtbcjnckejkjfeaaGreat
namespace Go.Proofs.YtbcjnckejkjfeaaGreat
set_option linter.unusedVariables false
set_option linter.unusedSimpArgs false
open Go.RowKit Go.NP
namespace DPy
open TrW TrC TrA TrX TrE TrI TPu TDr TSt DSl DPl DTr DDr DPu DSe
theorem cf14 (args : Array Value) (w1 : World) : (callFunc 14 args).run Tryz.prog w1 = .ok (.enter 14 args) w1 := enters Tryz.func14 (by kernel_rfl) (by kernel_rfl) args w1
theorem cf18 (args : Array Value) (w1 : World) : (callFunc 18 args).run Tryz.prog w1 = .ok (.enter 18 args) w1 := enters Tryz.func18 (by kernel_rfl) (by kernel_rfl) args w1
theorem cf19 (args : Array Value) (w1 : World) : (callFunc 19 args).run Tryz.prog w1 = .ok (.enter 19 args) w1 := enters Tryz.func19 (by kernel_rfl) (by kernel_rfl) args w1
theorem cf20 (args : Array Value) (w1 : World) : (callFunc 20 args).run Tryz.prog w1 = .ok (.enter 20 args) w1 := enters Tryz.func20 (by kernel_rfl) (by kernel_rfl) args w1
theorem cf22 (args : Array Value) (w1 : World) : (callFunc 22 args).run Tryz.prog w1 = .ok (.enter 22 args) w1 := enters Tryz.func22 (by kernel_rfl) (by kernel_rfl) args w1
theorem cf25 (args : Array Value) (w1 : World) : (callFunc 25 args).run Tryz.prog w1 = .ok (.enter 25 args) w1 := enters Tryz.func25 (by kernel_rfl) (by kernel_rfl) args w1
/-- The program's tree and the document's, beside each other. -/
structure PS (w : World) (p t : Nat) (mg : Int) (L1 L2 : List En) (S : Nat → Prop) (K : Nat) : Prop where
  ti : TI w p mg L1 S K
  dt : DT w t mg L2 fun k => ¬ S k
  nt : ¬ S t
theorem PS.step {w w' : World} {p t : Nat} {mg : Int} {L1 L2 : List En} {S : Nat → Prop} {K : Nat} (h : PS w p t mg L1 L2 S K) (hS : Below w.heap.size w w') : PS w' p t mg L1 L2 S K := ⟨h.ti.step hS, h.dt.step hS, h.nt⟩
theorem PS.prog {w w' : World} {p t : Nat} {mg : Int} {L1 L1' L2 : List En} {S S' : Nat → Prop} {K K' : Nat} (h : PS w p t mg L1 L2 S K) (hT : TI w' p mg L1' S' K') (hA : Aft2 w w' S S') : PS w' p t mg L1' L2 S' K' := by
  obtain ⟨A, cap, hd, ha⟩ := h.dt
  refine ⟨hT, ⟨A, cap, hd.over hA.fr h.nt ha, fun a e hs => ?_⟩, fun hs => ?_⟩
  · rcases hA.ow _ hs with h1 | h1
    · exact ha a e h1
    · have := (hd.ne a e).2; omega
  · rcases hA.ow _ hs with h1 | h1
    · exact h.nt h1
    · have := hd.bx.lt; omega
theorem PS.doc {w w' : World} {p t : Nat} {mg : Int} {L1 L2 L2' : List En} {S : Nat → Prop} {K : Nat} (h : PS w p t mg L1 L2 S K) (hD : DT w' t mg L2' fun k => ¬ S k) (hF : TrX.Fr w w' fun k => k = t) : PS w' p t mg L1 L2' S K :=
  ⟨h.ti.over hF fun k hk e => h.nt (e ▸ hk), hD, h.nt⟩
/-- What both may turn. -/
structure Aft3 (w w' : World) (t : Nat) (S S' : Nat → Prop) : Prop where
  fr : TrX.Fr w w' fun k => S k ∨ k = t
  new : ∀ k, S' k → S k ∨ w.heap.size ≤ k
theorem Aft3.both {w w1 w2 : World} {t : Nat} {S S' : Nat → Prop} (hA : Aft2 w w1 S S') (hF : TrX.Fr w1 w2 fun k => k = t) : Aft3 w w2 t S S' :=
  ⟨(hA.fr.mono fun j hj => .inl hj).trans hF fun j hj => .inl (.inr hj), hA.ow⟩
theorem Aft3.below {w w1 w2 : World} {t : Nat} {S S' : Nat → Prop} (hb : Below w.heap.size w w1) (h : Aft3 w1 w2 t S S') : Aft3 w w2 t S S' :=
  ⟨(Fr.of_below hb).trans h.fr (fun j hj => .inl hj), fun k hk => (h.new k hk).elim .inl fun q => .inr (by have := hb.size; omega)⟩
set_option maxRecDepth 100000 in
set_option maxHeartbeats 4000000 in
theorem playPut {p t K : Nat} {mg q : Int} {x : Bd} {L : List En} {S : Nat → Prop} (w : World) (h : PS w p t mg L L S K) (hK : K < 80000) (hl : L.length ≤ 1000) :
    Calls Tryz.prog 7 #[.pointer (some ⟨p, 0, none⟩), .pointer (some ⟨t, 0, none⟩), .agg [.int .i64 1, .int .i64 q, .int .i64 x.lo.x, .int .i64 x.lo.y, .int .i64 x.lo.z, .int .i64 x.hi.x, .int .i64 x.hi.y, .int .i64 x.hi.z].toArray] w fun e w' => e = .returned (.bool true) ∧ ∃ S', PS w' p t mg (putL mg L q x) (putL mg L q x) S' (K + 4) ∧ Aft3 w w' t S S' := by
  have hb : Below w.heap.size w (w.alloc (.cells [.int .i64 1, .int .i64 q, .int .i64 x.lo.x, .int .i64 x.lo.y, .int .i64 x.lo.z, .int .i64 x.hi.x, .int .i64 x.hi.y, .int .i64 x.hi.z].toArray 40)) := (Below.refl _ _).alloc (Nat.le_refl _) _
  have hB : Box (w.alloc (.cells [.int .i64 1, .int .i64 q, .int .i64 x.lo.x, .int .i64 x.lo.y, .int .i64 x.lo.z, .int .i64 x.hi.x, .int .i64 x.hi.y, .int .i64 x.hi.z].toArray 40)) w.heap.size [.int .i64 1, .int .i64 q, .int .i64 x.lo.x, .int .i64 x.lo.y, .int .i64 x.lo.z, .int .i64 x.hi.x, .int .i64 x.hi.y, .int .i64 x.hi.z] 40 := Box.new rfl
  have h1 := h.step hb
  obtain ⟨g, hg⟩ : ∃ g, w.heap.size = g := ⟨_, rfl⟩
  have HL := Lib.hid hl
  have c0 := hB.cell 0
  simp only [List.getElem?_cons_zero] at c0
  have hgS : ¬ S g := fun hs => by have := h.ti.lt _ hs; omega
  clear h hl
  go_enter Tryz.func7, Tryz.ntmps7
  go_wp2_with fail
  rw [hg] at hB
  refine wp_region_ph [(11, .free [])] (by kernel_rfl) (by kernel_rfl) ?_
  replace hb := hb.drew
  replace hB := hB.drew
  replace h1 := h1.step ((Below.refl _ _).drew)
  revert hb hB h1
  generalize (w.alloc (.cells [.int .i64 1, .int .i64 q, .int .i64 x.lo.x, .int .i64 x.lo.y, .int .i64 x.lo.z, .int .i64 x.hi.x, .int .i64 x.hi.y, .int .i64 x.hi.z].toArray 40)).drew = w1
  intro hb hB h1
  have H1 := Lib.hid h1; have HB := Lib.hid hB
  have CE := Lib.hid (fun (u : World) (hS : Below w1.heap.size w1 u ∨ ((∃ S', PS u p t mg (putL mg L q x) L S' (K + 4) ∧ Aft2 w1 u S S') ∧ Box u g [.int .i64 1, .int .i64 q, .int .i64 x.lo.x, .int .i64 x.lo.y, .int .i64 x.lo.z, .int .i64 x.hi.x, .int .i64 x.hi.y, .int .i64 x.hi.z] 40)) => (show Box u g [.int .i64 1, .int .i64 q, .int .i64 x.lo.x, .int .i64 x.lo.y, .int .i64 x.lo.z, .int .i64 x.hi.x, .int .i64 x.hi.y, .int .i64 x.hi.z] 40 from by
    rcases hS with h | h
    · exact HB.out.step h
    · exact h.2))
  clear c0 h1 hB
  refine Ph.one 5 (fun u => Below w1.heap.size w1 u) (fun u => (∃ S', PS u p t mg (putL mg L q x) L S' (K + 4) ∧ Aft2 w1 u S S') ∧ Box u g [.int .i64 1, .int .i64 q, .int .i64 x.lo.x, .int .i64 x.lo.y, .int .i64 x.lo.z, .int .i64 x.hi.x, .int .i64 x.hi.y, .int .i64 x.hi.z] 40) (by rfl) (Below.refl _ _) ?_
  simp only [List.drop_succ_cons, List.drop_zero, List.take_succ_cons, List.take_zero, Nat.reduceSub, Nat.sub_zero]
  iterate 2 (refine SeqO.val1 (v := ?_) (by rfl) (by rfl) (fun w1 hS => ?_) ?_; rotate_left; (· skip; go_simp; try with_reducible rfl); simp only [Act.put, List.setIfInBounds_toArray, List.set_cons_zero, List.set_cons_succ])
  iterate 1 (refine SeqO.val1 (v := ?_) (by rfl) (by rfl) (fun w1 hS => ?_) ?_; rotate_left; (· (have c0 : w1.cell? ⟨g, 1, none⟩ = some (.int .i64 q) := by (rw [(CE.out w1 hS).cell]; rfl)); go_simp; try with_reducible rfl); simp only [Act.put, List.setIfInBounds_toArray, List.set_cons_zero, List.set_cons_succ])
  iterate 1 (refine SeqO.val1 (v := ?_) (by rfl) (by rfl) (fun w1 hS => ?_) ?_; rotate_left; (· skip; go_simp; try with_reducible rfl); simp only [Act.put, List.setIfInBounds_toArray, List.set_cons_zero, List.set_cons_succ])
  refine SeqO.val1 (v := .agg (bdv x).toArray) (by rfl) (by rfl) (fun u hS => run_load_part (by rfl) (by rfl) ((CE.out u hS).part 2 6) Tryz.underlying38 (by rfl) (by kernel_rfl)) ?_
  simp only [Act.put, List.setIfInBounds_toArray, List.set_cons_zero, List.set_cons_succ]
  refine SeqO.call1 (v := .int .i64 (putE L q x)) (by rfl) (by rfl) (by rfl) cf14 (by simp [Act.eval] <;> rfl) (fun u hR => ?_) ?_
  · refine (putC (n := q) (x := x) u (H1.out.step hR).ti hK).mono ?_
    rintro e u2 ⟨rfl, S', hT, hA⟩
    exact ⟨rfl, ⟨S', (H1.out.step hR).prog hT hA, (Aft2.of_below hR).trans hA⟩, (hA.fr.block g (HB.out.step hR).lt hgS).trans (HB.out.step hR)⟩
  simp only [Act.put, List.setIfInBounds_toArray, List.set_cons_zero, List.set_cons_succ]
  iterate 2 (refine SeqO.val1 (v := ?_) (by rfl) (by rfl) (fun w1 hS => ?_) ?_; rotate_left; (· skip; go_simp; try with_reducible rfl); simp only [Act.put, List.setIfInBounds_toArray, List.set_cons_zero, List.set_cons_succ])
  iterate 1 (refine SeqO.val1 (v := ?_) (by rfl) (by rfl) (fun w1 hS => ?_) ?_; rotate_left; (· (have c0 : w1.cell? ⟨g, 1, none⟩ = some (.int .i64 q) := by (rw [(CE.out w1 hS).cell]; rfl)); go_simp; try with_reducible rfl); simp only [Act.put, List.setIfInBounds_toArray, List.set_cons_zero, List.set_cons_succ])
  iterate 1 (refine SeqO.val1 (v := ?_) (by rfl) (by rfl) (fun w1 hS => ?_) ?_; rotate_left; (· skip; go_simp; try with_reducible rfl); simp only [Act.put, List.setIfInBounds_toArray, List.set_cons_zero, List.set_cons_succ])
  refine SeqO.val1 (v := .agg (bdv x).toArray) (by rfl) (by rfl) (fun u hS => run_load_part (by rfl) (by rfl) ((CE.out u hS).part 2 6) Tryz.underlying38 (by rfl) (by kernel_rfl)) ?_
  simp only [Act.put, List.setIfInBounds_toArray, List.set_cons_zero, List.set_cons_succ]
  refine SeqO.nil1 (by decide) fun w9 hR2 => ?_
  refine Ph.last ?_
  simp only [List.drop_succ_cons, List.drop_zero, List.take_succ_cons, List.take_zero, Nat.reduceSub, Nat.sub_zero]
  obtain ⟨⟨S', hP, hA⟩, hB9⟩ := hR2
  have HP := Lib.hid hP; have HA := Lib.hid hA
  clear CE HB hB9 hP hA
  with_reducible refine wpL_call (ca := ?_) (args := ?_) ?_ ?_ cf18 ?_ ?_
  rotate_left 2
  · kernel_rfl
  · rfl
  · simp [Act.eval] <;> rfl
  refine (rputC (P := fun k => ¬ S' k) (x := x) (q := q) w9 HP.out.dt (fun k hk hs => by have := HP.out.ti.lt _ hs; omega) H1.out.ti.rise HL.out).mono ?_
  rintro e w10 ⟨rfl, hD, hF⟩
  have HP2 := Lib.hid (HP.out.doc hD hF)
  have HA2 := Lib.hid (Aft3.both HA.out hF)
  have HB0 := Lib.hid hb
  clear hD hF HP HA hb H1
  refine ⟨_, rfl, ?_⟩
  conv => arg 5; simp only [Act.put, List.setIfInBounds_toArray, List.set_cons_zero, List.set_cons_succ]
  have u1 : (putE L q x == putE L q x) = true := by simp
  iterate 2 (with_reducible refine wpL_val (v := ?_) ?_ ?_ ?_; rotate_left; (· kernel_rfl); (· go_simp; try with_reducible rfl); conv => arg 5; simp only [Act.put, List.setIfInBounds_toArray, List.set_cons_zero, List.set_cons_succ])
  refine wpList_nil ?_
  go_wp2_with fail
  exact bodyPost_ret (v := .bool true) (by simp [results, Tryz.results7, go_sem]) rfl ⟨rfl, S', HP2.out, Aft3.below HB0.out HA2.out⟩
set_option maxRecDepth 100000 in
set_option maxHeartbeats 4000000 in
theorem playDrop {p t K : Nat} {mg q : Int} {x : Bd} {L : List En} {S : Nat → Prop} (w : World) (h : PS w p t mg L L S K) (hK : K < 80000) (hl : L.length ≤ 1000) :
    Calls Tryz.prog 7 #[.pointer (some ⟨p, 0, none⟩), .pointer (some ⟨t, 0, none⟩), .agg [.int .i64 2, .int .i64 q, .int .i64 x.lo.x, .int .i64 x.lo.y, .int .i64 x.lo.z, .int .i64 x.hi.x, .int .i64 x.hi.y, .int .i64 x.hi.z].toArray] w fun e w' => e = .returned (.bool true) ∧ ∃ S', PS w' p t mg (dropL L q) (dropL L q) S' (K + 4) ∧ Aft3 w w' t S S' := by
  have hb : Below w.heap.size w (w.alloc (.cells [.int .i64 2, .int .i64 q, .int .i64 x.lo.x, .int .i64 x.lo.y, .int .i64 x.lo.z, .int .i64 x.hi.x, .int .i64 x.hi.y, .int .i64 x.hi.z].toArray 40)) := (Below.refl _ _).alloc (Nat.le_refl _) _
  have hB : Box (w.alloc (.cells [.int .i64 2, .int .i64 q, .int .i64 x.lo.x, .int .i64 x.lo.y, .int .i64 x.lo.z, .int .i64 x.hi.x, .int .i64 x.hi.y, .int .i64 x.hi.z].toArray 40)) w.heap.size [.int .i64 2, .int .i64 q, .int .i64 x.lo.x, .int .i64 x.lo.y, .int .i64 x.lo.z, .int .i64 x.hi.x, .int .i64 x.hi.y, .int .i64 x.hi.z] 40 := Box.new rfl
  have h1 := h.step hb
  obtain ⟨g, hg⟩ : ∃ g, w.heap.size = g := ⟨_, rfl⟩
  have HL := Lib.hid hl
  have c0 := hB.cell 0
  simp only [List.getElem?_cons_zero] at c0
  have hgS : ¬ S g := fun hs => by have := h.ti.lt _ hs; omega
  clear h hl
  go_enter Tryz.func7, Tryz.ntmps7
  go_wp2_with fail
  rw [hg] at hB
  refine wp_region_ph [(7, .free [])] (by kernel_rfl) (by kernel_rfl) ?_
  replace hb := hb.drew
  replace hB := hB.drew
  replace h1 := h1.step ((Below.refl _ _).drew)
  revert hb hB h1
  generalize (w.alloc (.cells [.int .i64 2, .int .i64 q, .int .i64 x.lo.x, .int .i64 x.lo.y, .int .i64 x.lo.z, .int .i64 x.hi.x, .int .i64 x.hi.y, .int .i64 x.hi.z].toArray 40)).drew = w1
  intro hb hB h1
  have H1 := Lib.hid h1; have HB := Lib.hid hB
  have CE := Lib.hid (fun (u : World) (hS : Below w1.heap.size w1 u ∨ ((∃ S', PS u p t mg (dropL L q) L S' (K + 4) ∧ Aft2 w1 u S S') ∧ Box u g [.int .i64 2, .int .i64 q, .int .i64 x.lo.x, .int .i64 x.lo.y, .int .i64 x.lo.z, .int .i64 x.hi.x, .int .i64 x.hi.y, .int .i64 x.hi.z] 40)) => (show Box u g [.int .i64 2, .int .i64 q, .int .i64 x.lo.x, .int .i64 x.lo.y, .int .i64 x.lo.z, .int .i64 x.hi.x, .int .i64 x.hi.y, .int .i64 x.hi.z] 40 from by
    rcases hS with h | h
    · exact HB.out.step h
    · exact h.2))
  clear c0 h1 hB
  refine Ph.one 3 (fun u => Below w1.heap.size w1 u) (fun u => (∃ S', PS u p t mg (dropL L q) L S' (K + 4) ∧ Aft2 w1 u S S') ∧ Box u g [.int .i64 2, .int .i64 q, .int .i64 x.lo.x, .int .i64 x.lo.y, .int .i64 x.lo.z, .int .i64 x.hi.x, .int .i64 x.hi.y, .int .i64 x.hi.z] 40) (by rfl) (Below.refl _ _) ?_
  simp only [List.drop_succ_cons, List.drop_zero, List.take_succ_cons, List.take_zero, Nat.reduceSub, Nat.sub_zero]
  iterate 2 (refine SeqO.val1 (v := ?_) (by rfl) (by rfl) (fun w1 hS => ?_) ?_; rotate_left; (· skip; go_simp; try with_reducible rfl); simp only [Act.put, List.setIfInBounds_toArray, List.set_cons_zero, List.set_cons_succ])
  iterate 1 (refine SeqO.val1 (v := ?_) (by rfl) (by rfl) (fun w1 hS => ?_) ?_; rotate_left; (· (have c0 : w1.cell? ⟨g, 1, none⟩ = some (.int .i64 q) := by (rw [(CE.out w1 hS).cell]; rfl)); go_simp; try with_reducible rfl); simp only [Act.put, List.setIfInBounds_toArray, List.set_cons_zero, List.set_cons_succ])
  refine SeqO.call1 (v := .int .i64 (dropE L q)) (by rfl) (by rfl) (by rfl) cf19 (by simp [Act.eval] <;> rfl) (fun u hR => ?_) ?_
  · refine (dropC (n := q) u (H1.out.step hR).ti hK).mono ?_
    rintro e u2 ⟨rfl, S', hT, hA⟩
    exact ⟨rfl, ⟨S', (H1.out.step hR).prog hT hA, (Aft2.of_below hR).trans hA⟩, (hA.fr.block g (HB.out.step hR).lt hgS).trans (HB.out.step hR)⟩
  simp only [Act.put, List.setIfInBounds_toArray, List.set_cons_zero, List.set_cons_succ]
  iterate 2 (refine SeqO.val1 (v := ?_) (by rfl) (by rfl) (fun w1 hS => ?_) ?_; rotate_left; (· skip; go_simp; try with_reducible rfl); simp only [Act.put, List.setIfInBounds_toArray, List.set_cons_zero, List.set_cons_succ])
  iterate 1 (refine SeqO.val1 (v := ?_) (by rfl) (by rfl) (fun w1 hS => ?_) ?_; rotate_left; (· (have c0 : w1.cell? ⟨g, 1, none⟩ = some (.int .i64 q) := by (rw [(CE.out w1 hS).cell]; rfl)); go_simp; try with_reducible rfl); simp only [Act.put, List.setIfInBounds_toArray, List.set_cons_zero, List.set_cons_succ])
  refine SeqO.nil1 (by decide) fun w9 hR2 => ?_
  refine Ph.last ?_
  simp only [List.drop_succ_cons, List.drop_zero, List.take_succ_cons, List.take_zero, Nat.reduceSub, Nat.sub_zero]
  obtain ⟨⟨S', hP, hA⟩, hB9⟩ := hR2
  have HP := Lib.hid hP; have HA := Lib.hid hA
  clear CE HB hB9 hP hA
  with_reducible refine wpL_call (ca := ?_) (args := ?_) ?_ ?_ cf20 ?_ ?_
  rotate_left 2
  · kernel_rfl
  · rfl
  · simp [Act.eval] <;> rfl
  refine (rdropC (P := fun k => ¬ S' k) (q := q) w9 HP.out.dt (fun k hk hs => by have := HP.out.ti.lt _ hs; omega) H1.out.ti.rise HL.out).mono ?_
  rintro e w10 ⟨rfl, hD, hF⟩
  have HP2 := Lib.hid (HP.out.doc hD hF)
  have HA2 := Lib.hid (Aft3.both HA.out hF)
  have HB0 := Lib.hid hb
  clear hD hF HP HA hb H1
  refine ⟨_, rfl, ?_⟩
  conv => arg 5; simp only [Act.put, List.setIfInBounds_toArray, List.set_cons_zero, List.set_cons_succ]
  have u1 : (dropE L q == dropE L q) = true := by simp
  iterate 2 (with_reducible refine wpL_val (v := ?_) ?_ ?_ ?_; rotate_left; (· kernel_rfl); (· go_simp; try with_reducible rfl); conv => arg 5; simp only [Act.put, List.setIfInBounds_toArray, List.set_cons_zero, List.set_cons_succ])
  refine wpList_nil ?_
  go_wp2_with fail
  exact bodyPost_ret (v := .bool true) (by simp [results, Tryz.results7, go_sem]) rfl ⟨rfl, S', HP2.out, Aft3.below HB0.out HA2.out⟩
set_option maxRecDepth 100000 in
set_option maxHeartbeats 4000000 in
theorem playSet {p t K : Nat} {mg q : Int} {x : Bd} {L : List En} {S : Nat → Prop} (w : World) (h : PS w p t mg L L S K) (hK : K < 80000) (hl : L.length ≤ 1000) :
    Calls Tryz.prog 7 #[.pointer (some ⟨p, 0, none⟩), .pointer (some ⟨t, 0, none⟩), .agg [.int .i64 3, .int .i64 q, .int .i64 x.lo.x, .int .i64 x.lo.y, .int .i64 x.lo.z, .int .i64 x.hi.x, .int .i64 x.hi.y, .int .i64 x.hi.z].toArray] w fun e w' => e = .returned (.bool true) ∧ ∃ S', PS w' p t mg (setL mg L q x) (setL mg L q x) S' (K + 4) ∧ Aft3 w w' t S S' := by
  have hb : Below w.heap.size w (w.alloc (.cells [.int .i64 3, .int .i64 q, .int .i64 x.lo.x, .int .i64 x.lo.y, .int .i64 x.lo.z, .int .i64 x.hi.x, .int .i64 x.hi.y, .int .i64 x.hi.z].toArray 40)) := (Below.refl _ _).alloc (Nat.le_refl _) _
  have hB : Box (w.alloc (.cells [.int .i64 3, .int .i64 q, .int .i64 x.lo.x, .int .i64 x.lo.y, .int .i64 x.lo.z, .int .i64 x.hi.x, .int .i64 x.hi.y, .int .i64 x.hi.z].toArray 40)) w.heap.size [.int .i64 3, .int .i64 q, .int .i64 x.lo.x, .int .i64 x.lo.y, .int .i64 x.lo.z, .int .i64 x.hi.x, .int .i64 x.hi.y, .int .i64 x.hi.z] 40 := Box.new rfl
  have h1 := h.step hb
  have HL := Lib.hid hl
  have c0 := hB.cell 0
  have c1 := hB.cell 1
  simp only [List.getElem?_cons_zero, List.getElem?_cons_succ] at c0 c1
  have hgS : ¬ S w.heap.size := fun hs => by have := h.ti.lt _ hs; omega
  have hat : At' (w.alloc (.cells [.int .i64 3, .int .i64 q, .int .i64 x.lo.x, .int .i64 x.lo.y, .int .i64 x.lo.z, .int .i64 x.hi.x, .int .i64 x.hi.y, .int .i64 x.hi.z].toArray 40)) w.heap.size 2 [.int .i64 x.lo.x, .int .i64 x.lo.y, .int .i64 x.lo.z, .int .i64 x.hi.x, .int .i64 x.hi.y, .int .i64 x.hi.z] := hB.part 2 6
  have H1 := Lib.hid h1; have HB := Lib.hid hB; have HBB := Lib.hid hb
  clear h hl h1 hB hb
  go_enter Tryz.func7, Tryz.ntmps7
  go_wp2_with (refine wpL_at (l := [.int .i64 x.lo.x, .int .i64 x.lo.y, .int .i64 x.lo.z, .int .i64 x.hi.x, .int .i64 x.hi.y, .int .i64 x.hi.z]) (by rfl) (by rfl) hat Tryz.underlying38 (by rfl) (by kernel_rfl) (by kernel_rfl) ?_; (conv => arg 5; simp only [Act.put, List.setIfInBounds_toArray, List.set_cons_zero, List.set_cons_succ]))
  refine (setC (n := q) (x := x) _ H1.out.ti hK).mono ?_
  rintro e w2 ⟨rfl, S', hT, hA⟩
  have HP := Lib.hid (H1.out.prog hT hA)
  have hB2 : Box w2 w.heap.size [.int .i64 3, .int .i64 q, .int .i64 x.lo.x, .int .i64 x.lo.y, .int .i64 x.lo.z, .int .i64 x.hi.x, .int .i64 x.hi.y, .int .i64 x.hi.z] 40 := (hA.fr.block w.heap.size HB.out.lt hgS).trans HB.out
  have HA := Lib.hid hA
  have d1 := hB2.cell 1
  simp only [List.getElem?_cons_zero, List.getElem?_cons_succ] at d1
  have hg2 : w.heap.size < w2.heap.size := hB2.lt
  have hat2 : At' w2 w.heap.size 2 [.int .i64 x.lo.x, .int .i64 x.lo.y, .int .i64 x.lo.z, .int .i64 x.hi.x, .int .i64 x.hi.y, .int .i64 x.hi.z] := hB2.part 2 6
  clear hT hA hB2 HB c0 c1 hat hgS
  go_wp2_with (refine wpL_at (l := [.int .i64 x.lo.x, .int .i64 x.lo.y, .int .i64 x.lo.z, .int .i64 x.hi.x, .int .i64 x.hi.y, .int .i64 x.hi.z]) (by rfl) (by rfl) hat2 Tryz.underlying38 (by rfl) (by kernel_rfl) (by kernel_rfl) ?_; (conv => arg 5; simp only [Act.put, List.setIfInBounds_toArray, List.set_cons_zero, List.set_cons_succ]))
  refine (rsetC (P := fun k => ¬ S' k) (x := x) (q := q) w2 HP.out.dt (fun k hk hs => by have := HP.out.ti.lt _ hs; omega) H1.out.ti.rise HL.out).mono ?_
  rintro e w10 ⟨rfl, hD, hF⟩
  have HP2 := Lib.hid (HP.out.doc hD hF)
  have HA2 := Lib.hid (Aft3.both HA.out hF)
  clear hD hF HP HA H1 hat2 d1 hg2
  have u1 : (setE L q x == setE L q x) = true := by simp
  have u2 : (setM L q x == setM L q x) = true := by simp
  go_wp2_with fail
  exact bodyPost_ret (v := .bool true) (by simp [results, Tryz.results7, go_sem]) rfl ⟨rfl, S', HP2.out, Aft3.below HBB.out HA2.out⟩
set_option maxRecDepth 100000 in
set_option maxHeartbeats 4000000 in
theorem playMeet {p t K : Nat} {mg q : Int} {x : Bd} {L : List En} {S : Nat → Prop} (w : World) (h : PS w p t mg L L S K) (hK : K < 80000) (hl : L.length ≤ 1000) :
    RetB Tryz.prog 7 #[.pointer (some ⟨p, 0, none⟩), .pointer (some ⟨t, 0, none⟩), .agg [.int .i64 4, .int .i64 q, .int .i64 x.lo.x, .int .i64 x.lo.y, .int .i64 x.lo.z, .int .i64 x.hi.x, .int .i64 x.hi.y, .int .i64 x.hi.z].toArray] w (.bool true) := by
  have hb : Below w.heap.size w (w.alloc (.cells [.int .i64 4, .int .i64 q, .int .i64 x.lo.x, .int .i64 x.lo.y, .int .i64 x.lo.z, .int .i64 x.hi.x, .int .i64 x.hi.y, .int .i64 x.hi.z].toArray 40)) := (Below.refl _ _).alloc (Nat.le_refl _) _
  have hB : Box (w.alloc (.cells [.int .i64 4, .int .i64 q, .int .i64 x.lo.x, .int .i64 x.lo.y, .int .i64 x.lo.z, .int .i64 x.hi.x, .int .i64 x.hi.y, .int .i64 x.hi.z].toArray 40)) w.heap.size [.int .i64 4, .int .i64 q, .int .i64 x.lo.x, .int .i64 x.lo.y, .int .i64 x.lo.z, .int .i64 x.hi.x, .int .i64 x.hi.y, .int .i64 x.hi.z] 40 := Box.new rfl
  have h1 := h.step hb
  have HL := Lib.hid hl
  have c0 := hB.cell 0
  simp only [List.getElem?_cons_zero, List.getElem?_cons_succ] at c0
  have hat : At' (w.alloc (.cells [.int .i64 4, .int .i64 q, .int .i64 x.lo.x, .int .i64 x.lo.y, .int .i64 x.lo.z, .int .i64 x.hi.x, .int .i64 x.hi.y, .int .i64 x.hi.z].toArray 40)) w.heap.size 2 [.int .i64 x.lo.x, .int .i64 x.lo.y, .int .i64 x.lo.z, .int .i64 x.hi.x, .int .i64 x.hi.y, .int .i64 x.hi.z] := hB.part 2 6
  have H1 := Lib.hid h1; have HB := Lib.hid hB; have HBB := Lib.hid hb
  clear h hl h1 hB hb
  unfold RetB
  go_enter Tryz.func7, Tryz.ntmps7
  go_wp2_with (refine wpL_at (l := [.int .i64 x.lo.x, .int .i64 x.lo.y, .int .i64 x.lo.z, .int .i64 x.hi.x, .int .i64 x.hi.y, .int .i64 x.hi.z]) (by rfl) (by rfl) hat Tryz.underlying38 (by rfl) (by kernel_rfl) (by kernel_rfl) ?_; (conv => arg 5; simp only [Act.put, List.setIfInBounds_toArray, List.set_cons_zero, List.set_cons_succ]))
  refine (TMe.tmeetC (x := x) _ H1.out.ti hK).mono ?_
  rintro e w2 ⟨⟨v1, rfl, hv1⟩, hb2⟩
  have HP := Lib.hid (H1.out.step hb2)
  have HB2 := Lib.hid (HB.out.step hb2)
  have HW := Lib.hid (HBB.out.trans (hb2.mono HBB.out.size))
  have HV1 := Lib.hid hv1
  obtain ⟨A, cap, hd, _⟩ := HP.out.dt
  have HD := Lib.hid hd
  have hat2 : At' w2 w.heap.size 2 [.int .i64 x.lo.x, .int .i64 x.lo.y, .int .i64 x.lo.z, .int .i64 x.hi.x, .int .i64 x.hi.y, .int .i64 x.hi.z] := HB2.out.part 2 6
  have hg2 : w.heap.size < w2.heap.size := HB2.out.lt
  obtain ⟨er, her⟩ : ∃ er, errIf x.ok = er := ⟨_, rfl⟩
  rw [her]
  clear hb2 hd hv1 H1 HB HBB c0 hat
  go_wp2_with fail
  refine wp_region_ph [(5, .free []), (7, .seq), (11, .free [])] (by kernel_rfl) (by kernel_rfl) ?_
  refine Ph.belowd ?_
  simp only [List.drop_succ_cons, List.drop_zero, List.take_succ_cons, List.take_zero, Nat.reduceSub, Nat.sub_zero]
  iterate 2 (refine SeqO.val (v := ?_) (by rfl) (by rfl) (fun w1 hS => ?_) ?_; rotate_left; (· obtain ⟨hc, hcf⟩ := bcell hS; go_simp; try with_reducible rfl); simp only [Act.put, List.setIfInBounds_toArray, List.set_cons_zero, List.set_cons_succ])
  refine SeqO.row (l := [.int .i64 mg, .slice A L.length cap]) (by rfl) (by rfl) HD.out.bx Tryz.underlying30 (by rfl) (by kernel_rfl) (by rfl) (by rfl) ?_
  simp only [Act.put, List.setIfInBounds_toArray, List.set_cons_zero, List.set_cons_succ]
  iterate 1 (refine SeqO.val (v := ?_) (by rfl) (by rfl) (fun w1 hS => ?_) ?_; rotate_left; (· obtain ⟨hc, hcf⟩ := bcell hS; go_simp; try with_reducible rfl); simp only [Act.put, List.setIfInBounds_toArray, List.set_cons_zero, List.set_cons_succ])
  refine SeqO.at (l := [.int .i64 x.lo.x, .int .i64 x.lo.y, .int .i64 x.lo.z, .int .i64 x.hi.x, .int .i64 x.hi.y, .int .i64 x.hi.z]) (by rfl) (by rfl) hg2 hat2 Tryz.underlying38 (by rfl) (by kernel_rfl) (by rfl) (by rfl) ?_
  simp only [Act.put, List.setIfInBounds_toArray, List.set_cons_zero, List.set_cons_succ]
  refine SeqO.nil0 fun w8 hS8 => ?_
  refine Ph.list ?_
  simp only [List.drop_succ_cons, List.drop_zero, List.take_succ_cons, List.take_zero, Nat.reduceSub, Nat.sub_zero]
  with_reducible refine wpL_call (ca := ?_) (args := ?_) ?_ ?_ cf22 ?_ ?_
  rotate_left 2
  · kernel_rfl
  · rfl
  · simp [Act.eval] <;> rfl
  refine (DMe.rtmeetC (x := x) cap mg w8 (HD.out.step hS8).sl (by have := HL.out; omega)).mono ?_
  rintro e w9 ⟨⟨v2, rfl, hv2⟩, hb9⟩
  rw [her] at *
  refine ⟨_, rfl, ?_⟩
  conv => arg 5; simp only [Act.put, List.setIfInBounds_toArray, List.set_cons_zero, List.set_cons_succ]
  iterate 1 (with_reducible refine wpL_val (v := ?_) ?_ ?_ ?_; rotate_left; (· kernel_rfl); (· go_simp; try with_reducible rfl); conv => arg 5; simp only [Act.put, List.setIfInBounds_toArray, List.set_cons_zero, List.set_cons_succ])
  refine wpList_nil ?_
  refine Ph.below ?_
  simp only [List.drop_succ_cons, List.drop_zero, List.take_succ_cons, List.take_zero, Nat.reduceSub, Nat.sub_zero]
  iterate 4 (refine SeqO.val (v := ?_) (by rfl) (by rfl) (fun w1 hS => ?_) ?_; rotate_left; (· obtain ⟨hc, hcf⟩ := bcell hS; go_simp; try with_reducible rfl); simp only [Act.put, List.setIfInBounds_toArray, List.set_cons_zero, List.set_cons_succ])
  refine SeqO.nil0 fun w9b hS9b => ?_
  refine Ph.last ?_
  simp only [List.drop_succ_cons, List.drop_zero, List.take_succ_cons, List.take_zero, Nat.reduceSub, Nat.sub_zero]
  refine wpList_nil ?_
  have hb29 := (hS8.trans (hb9.mono hS8.size)).trans (hS9b.mono (hS8.trans (hb9.mono hS8.size)).size)
  have HV1b := Lib.hid (HV1.out.step hb29); have HV2 := Lib.hid (hv2.step hS9b)
  have HW9 := Lib.hid (HW.out.trans (hb29.mono HW.out.size))
  have u1 : (er == er) = true := by simp
  have hml : (TMe.meetL L x).length ≤ 100000 := Nat.le_trans (DMe.tell_le _ _) (by have := HL.out; omega)
  clear hS9b hS8 hb9 hb29 hv2 HV1 HW hat2 hg2 HD HB2 her
  go_wp2_with fail
  refine Calls.mono (TSm.sameIntsC w9b HV1b.out HV2.out hml) ?_
  rintro e w10 ⟨rfl, hb10⟩
  go_wp2_with fail
  exact bodyPost_ret (v := .bool true) (by simp [results, Tryz.results7, go_sem]) rfl ⟨rfl, HW9.out.trans (hb10.mono HW9.out.size)⟩
set_option maxRecDepth 100000 in
set_option maxHeartbeats 4000000 in
theorem playWay {p t K : Nat} {mg q : Int} {x : Bd} {L : List En} {S : Nat → Prop} (w : World) (h : PS w p t mg L L S K) (hK : K < 80000) (hl : L.length ≤ 1000) :
    RetB Tryz.prog 7 #[.pointer (some ⟨p, 0, none⟩), .pointer (some ⟨t, 0, none⟩), .agg [.int .i64 5, .int .i64 q, .int .i64 x.lo.x, .int .i64 x.lo.y, .int .i64 x.lo.z, .int .i64 x.hi.x, .int .i64 x.hi.y, .int .i64 x.hi.z].toArray] w (.bool true) := by
  have hb : Below w.heap.size w (w.alloc (.cells [.int .i64 5, .int .i64 q, .int .i64 x.lo.x, .int .i64 x.lo.y, .int .i64 x.lo.z, .int .i64 x.hi.x, .int .i64 x.hi.y, .int .i64 x.hi.z].toArray 40)) := (Below.refl _ _).alloc (Nat.le_refl _) _
  have hB : Box (w.alloc (.cells [.int .i64 5, .int .i64 q, .int .i64 x.lo.x, .int .i64 x.lo.y, .int .i64 x.lo.z, .int .i64 x.hi.x, .int .i64 x.hi.y, .int .i64 x.hi.z].toArray 40)) w.heap.size [.int .i64 5, .int .i64 q, .int .i64 x.lo.x, .int .i64 x.lo.y, .int .i64 x.lo.z, .int .i64 x.hi.x, .int .i64 x.hi.y, .int .i64 x.hi.z] 40 := Box.new rfl
  have h1 := h.step hb
  have HL := Lib.hid hl
  have c0 := hB.cell 0
  simp only [List.getElem?_cons_zero, List.getElem?_cons_succ] at c0
  have hat : At' (w.alloc (.cells [.int .i64 5, .int .i64 q, .int .i64 x.lo.x, .int .i64 x.lo.y, .int .i64 x.lo.z, .int .i64 x.hi.x, .int .i64 x.hi.y, .int .i64 x.hi.z].toArray 40)) w.heap.size 2 [.int .i64 x.lo.x, .int .i64 x.lo.y, .int .i64 x.lo.z] := hB.part 2 3
  have hau : At' (w.alloc (.cells [.int .i64 5, .int .i64 q, .int .i64 x.lo.x, .int .i64 x.lo.y, .int .i64 x.lo.z, .int .i64 x.hi.x, .int .i64 x.hi.y, .int .i64 x.hi.z].toArray 40)) w.heap.size 5 [.int .i64 x.hi.x, .int .i64 x.hi.y, .int .i64 x.hi.z] := hB.part 5 3
  have H1 := Lib.hid h1; have HB := Lib.hid hB; have HBB := Lib.hid hb
  clear h hl h1 hB hb
  unfold RetB
  go_enter Tryz.func7, Tryz.ntmps7
  go_wp2_with (first | (refine wpL_at (l := [.int .i64 x.lo.x, .int .i64 x.lo.y, .int .i64 x.lo.z]) (by rfl) (by rfl) hat Tryz.underlying36 (by rfl) (by kernel_rfl) (by kernel_rfl) ?_; (conv => arg 5; simp only [Act.put, List.setIfInBounds_toArray, List.set_cons_zero, List.set_cons_succ])) | (refine wpL_at (l := [.int .i64 x.hi.x, .int .i64 x.hi.y, .int .i64 x.hi.z]) (by rfl) (by rfl) hau Tryz.underlying36 (by rfl) (by kernel_rfl) (by kernel_rfl) ?_; (conv => arg 5; simp only [Act.put, List.setIfInBounds_toArray, List.set_cons_zero, List.set_cons_succ])))
  refine (TWy.wayC (f := x.lo) (t := x.hi) _ H1.out.ti hK).mono ?_
  rintro e w2 ⟨⟨v1, rfl, hv1⟩, hb2⟩
  have HP := Lib.hid (H1.out.step hb2)
  have HB2 := Lib.hid (HB.out.step hb2)
  have HW := Lib.hid (HBB.out.trans (hb2.mono HBB.out.size))
  have HV1 := Lib.hid hv1
  obtain ⟨A, cap, hd, _⟩ := HP.out.dt
  have HD := Lib.hid hd
  have hat2 : At' w2 w.heap.size 2 [.int .i64 x.lo.x, .int .i64 x.lo.y, .int .i64 x.lo.z] := HB2.out.part 2 3
  have hau2 : At' w2 w.heap.size 5 [.int .i64 x.hi.x, .int .i64 x.hi.y, .int .i64 x.hi.z] := HB2.out.part 5 3
  have hg2 : w.heap.size < w2.heap.size := HB2.out.lt
  obtain ⟨er, her⟩ : ∃ er, errIf (x.lo.ok ∧ x.hi.ok) = er := ⟨_, rfl⟩
  rw [her]
  clear hb2 hd hv1 H1 HB HBB c0 hat hau
  go_wp2_with fail
  refine wp_region_ph [(9, .free []), (11, .seq), (15, .free [])] (by kernel_rfl) (by kernel_rfl) ?_
  refine Ph.belowd ?_
  simp only [List.drop_succ_cons, List.drop_zero, List.take_succ_cons, List.take_zero, Nat.reduceSub, Nat.sub_zero]
  iterate 2 (refine SeqO.val (v := ?_) (by rfl) (by rfl) (fun w1 hS => ?_) ?_; rotate_left; (· obtain ⟨hc, hcf⟩ := bcell hS; go_simp; try with_reducible rfl); simp only [Act.put, List.setIfInBounds_toArray, List.set_cons_zero, List.set_cons_succ])
  refine SeqO.row (l := [.int .i64 mg, .slice A L.length cap]) (by rfl) (by rfl) HD.out.bx Tryz.underlying30 (by rfl) (by kernel_rfl) (by rfl) (by rfl) ?_
  simp only [Act.put, List.setIfInBounds_toArray, List.set_cons_zero, List.set_cons_succ]
  iterate 2 (refine SeqO.val (v := ?_) (by rfl) (by rfl) (fun w1 hS => ?_) ?_; rotate_left; (· obtain ⟨hc, hcf⟩ := bcell hS; go_simp; try with_reducible rfl); simp only [Act.put, List.setIfInBounds_toArray, List.set_cons_zero, List.set_cons_succ])
  refine SeqO.at (l := [.int .i64 x.lo.x, .int .i64 x.lo.y, .int .i64 x.lo.z]) (by rfl) (by rfl) hg2 hat2 Tryz.underlying36 (by rfl) (by kernel_rfl) (by rfl) (by rfl) ?_
  simp only [Act.put, List.setIfInBounds_toArray, List.set_cons_zero, List.set_cons_succ]
  iterate 2 (refine SeqO.val (v := ?_) (by rfl) (by rfl) (fun w1 hS => ?_) ?_; rotate_left; (· obtain ⟨hc, hcf⟩ := bcell hS; go_simp; try with_reducible rfl); simp only [Act.put, List.setIfInBounds_toArray, List.set_cons_zero, List.set_cons_succ])
  refine SeqO.at (l := [.int .i64 x.hi.x, .int .i64 x.hi.y, .int .i64 x.hi.z]) (by rfl) (by rfl) hg2 hau2 Tryz.underlying36 (by rfl) (by kernel_rfl) (by rfl) (by rfl) ?_
  simp only [Act.put, List.setIfInBounds_toArray, List.set_cons_zero, List.set_cons_succ]
  refine SeqO.nil0 fun w8 hS8 => ?_
  refine Ph.list ?_
  simp only [List.drop_succ_cons, List.drop_zero, List.take_succ_cons, List.take_zero, Nat.reduceSub, Nat.sub_zero]
  with_reducible refine wpL_call (ca := ?_) (args := ?_) ?_ ?_ cf25 ?_ ?_
  rotate_left 2
  · kernel_rfl
  · rfl
  · simp [Act.eval] <;> rfl
  refine (DWy.rtwayC (f := x.lo) (t := x.hi) cap mg w8 (HD.out.step hS8).sl (by have := HL.out; omega)).mono ?_
  rintro e w9 ⟨⟨v2, rfl, hv2⟩, hb9⟩
  rw [her] at *
  refine ⟨_, rfl, ?_⟩
  conv => arg 5; simp only [Act.put, List.setIfInBounds_toArray, List.set_cons_zero, List.set_cons_succ]
  iterate 1 (with_reducible refine wpL_val (v := ?_) ?_ ?_ ?_; rotate_left; (· kernel_rfl); (· go_simp; try with_reducible rfl); conv => arg 5; simp only [Act.put, List.setIfInBounds_toArray, List.set_cons_zero, List.set_cons_succ])
  refine wpList_nil ?_
  refine Ph.below ?_
  simp only [List.drop_succ_cons, List.drop_zero, List.take_succ_cons, List.take_zero, Nat.reduceSub, Nat.sub_zero]
  iterate 4 (refine SeqO.val (v := ?_) (by rfl) (by rfl) (fun w1 hS => ?_) ?_; rotate_left; (· obtain ⟨hc, hcf⟩ := bcell hS; go_simp; try with_reducible rfl); simp only [Act.put, List.setIfInBounds_toArray, List.set_cons_zero, List.set_cons_succ])
  refine SeqO.nil0 fun w9b hS9b => ?_
  refine Ph.last ?_
  simp only [List.drop_succ_cons, List.drop_zero, List.take_succ_cons, List.take_zero, Nat.reduceSub, Nat.sub_zero]
  refine wpList_nil ?_
  have hb29 := (hS8.trans (hb9.mono hS8.size)).trans (hS9b.mono (hS8.trans (hb9.mono hS8.size)).size)
  have HV1b := Lib.hid (HV1.out.step hb29); have HV2 := Lib.hid (hv2.step hS9b)
  have HW9 := Lib.hid (HW.out.trans (hb29.mono HW.out.size))
  have u1 : (er == er) = true := by simp
  have hml : (TWy.wayL L x.lo x.hi).length ≤ 100000 := Nat.le_trans (DMe.tell_le _ _) (by have := HL.out; omega)
  clear hS9b hS8 hb9 hb29 hv2 HV1 HW hat2 hau2 hg2 HD HB2 her
  go_wp2_with fail
  refine Calls.mono (TSm.sameIntsC w9b HV1b.out HV2.out hml) ?_
  rintro e w10 ⟨rfl, hb10⟩
  go_wp2_with fail
  exact bodyPost_ret (v := .bool true) (by simp [results, Tryz.results7, go_sem]) rfl ⟨rfl, HW9.out.trans (hb10.mono HW9.out.size)⟩
set_option maxRecDepth 100000 in
set_option maxHeartbeats 4000000 in
theorem playElse {p t : Nat} {d q : Int} {x : Bd} (w : World) (h : ¬ (1 ≤ d ∧ d ≤ 6)) :
    RetB Tryz.prog 7 #[.pointer (some ⟨p, 0, none⟩), .pointer (some ⟨t, 0, none⟩), .agg [.int .i64 d, .int .i64 q, .int .i64 x.lo.x, .int .i64 x.lo.y, .int .i64 x.lo.z, .int .i64 x.hi.x, .int .i64 x.hi.y, .int .i64 x.hi.z].toArray] w (.bool true) := by
  have hb : Below w.heap.size w (w.alloc (.cells [.int .i64 d, .int .i64 q, .int .i64 x.lo.x, .int .i64 x.lo.y, .int .i64 x.lo.z, .int .i64 x.hi.x, .int .i64 x.hi.y, .int .i64 x.hi.z].toArray 40)) := (Below.refl _ _).alloc (Nat.le_refl _) _
  have e1 : (d == 1) = false := by simp; omega
  have e2 : (d == 2) = false := by simp; omega
  have e3 : (d == 3) = false := by simp; omega
  have e4 : (d == 4) = false := by simp; omega
  have e5 : (d == 5) = false := by simp; omega
  have e6 : (d == 6) = false := by simp; omega
  clear h
  unfold RetB
  go_enter Tryz.func7, Tryz.ntmps7
  go_wp2_with fail
  exact bodyPost_ret (v := .bool true) (by simp [results, Tryz.results7, go_sem]) rfl ⟨rfl, hb⟩
end DPy
end Go.Proofs.YtbcjnckejkjfeaaGreat
