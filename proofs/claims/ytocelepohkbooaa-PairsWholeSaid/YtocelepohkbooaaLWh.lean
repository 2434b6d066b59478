/- Pairs that are sorted again are the same; what began and stayed is now ..: the walk. No condition. -/
import Derived.Test.YtocelepohkbooaaQAw
import Derived.Test.YtocelepohkbooaaQRs
namespace Go.Proofs.Ytocelepohkbooaa
set_option linter.unusedVariables false
set_option linter.unusedSimpArgs false
open Go.RowKit Go.NP
namespace LWh
open QCk QCl QSd QDg QDf QRs QAw
theorem fine_sub {l m : List Pr} (hl : fineS l = 0) (h : ∀ x ∈ m, x ∈ l) (hm : m.length ≤ 65536) : fineS m = 0 := by
  unfold fineS
  rw [if_neg (by omega), if_pos fun p hp => (fineS_ok hl).2 p (h p hp)]
theorem check_sorted {l : List Pr} (hl : fineS l = 0) : checkS (sortS l) = 0 := by
  have hf : fineS (sortS l) = 0 := fine_sub hl (fun x hx => sortS_mem.1 hx) (Nat.le_trans (sortS_len l) (fineS_ok hl).1)
  unfold checkS
  rw [if_pos hf, if_pos (sortS_risen l)]
theorem onl_mem {l m : List Pr} {b : Bool} {x : Pr} : x ∈ onl l m b ↔ x ∈ l ∧ decide (x ∈ m) = b := by
  unfold onl
  rw [List.mem_filter]
  simp
theorem onl_risen {l m : List Pr} {b : Bool} (h : risen l) : risen (onl l m b) := by
  unfold onl; exact h.filter _
/-- What both have, from either side. -/
theorem onl_both {l m : List Pr} (hl : risen l) (hm : risen m) : onl l m true = onl m l true :=
  QSd.risen_ext (onl_risen hl) (onl_risen hm) fun x => by
    rw [onl_mem, onl_mem]; simp only [decide_eq_true_eq]; exact And.comm
/-- What began and what stayed, sorted, is now. -/
theorem began_stayed {old now : List Pr} (ho : risen old) (hn : risen now) : sortS (onl now old false ++ onl old now true) = now :=
  QSd.risen_ext (sortS_risen _) hn fun x => by
    rw [sortS_mem, List.mem_append, onl_mem, onl_mem]
    simp only [decide_eq_true_eq, decide_eq_false_iff_not]
    constructor
    · rintro (h | h)
      · exact h.1
      · exact h.2
    · intro h
      by_cases c : x ∈ old
      · exact .inr ⟨c, h⟩
      · exact .inl ⟨h, c⟩
theorem stayed_ended {old now : List Pr} (ho : risen old) (hn : risen now) : sortS (onl old now true ++ onl old now false) = old :=
  QSd.risen_ext (sortS_risen _) ho fun x => by
    rw [sortS_mem, List.mem_append, onl_mem, onl_mem]
    simp only [decide_eq_true_eq, decide_eq_false_iff_not]
    constructor
    · rintro (h | h) <;> exact h.1
    · intro h
      by_cases c : x ∈ now
      · exact .inl ⟨h, c⟩
      · exact .inr ⟨h, c⟩
theorem filter_both (f : Pr → Bool) : ∀ l : List Pr, l.length = (l.filter f).length + (l.filter fun x => !f x).length
  | [] => rfl
  | x :: r => by
    have := filter_both f r
    rw [List.filter_cons, List.filter_cons]
    cases f x <;> simp <;> omega
theorem len_now {old now : List Pr} (ho : risen old) (hn : risen now) : (onl now old false).length + (onl old now true).length = now.length := by
  rw [onl_both ho hn]
  unfold onl
  have h1 := filter_both (fun x => decide (x ∈ old)) now
  have e1 : (now.filter fun x => decide (x ∈ old) == true) = now.filter fun x => decide (x ∈ old) := by congr 1; funext x; cases decide (x ∈ old) <;> rfl
  have e2 : (now.filter fun x => decide (x ∈ old) == false) = now.filter fun x => !decide (x ∈ old) := by congr 1; funext x; cases decide (x ∈ old) <;> rfl
  rw [e1, e2]; omega
theorem rev_mem {l : List Pr} {x : Pr} : x ∈ l.reverse ↔ x ∈ l := List.mem_reverse
theorem rev_take {l : List Pr} {k n : Nat} {p : Pr} (hn : l.length = n) (hk : k < n) (hp : l[n - 1 - k]? = some p) : l.reverse.take (k + 1) = l.reverse.take k ++ [p] := by
  refine take_snoc ?_
  rw [List.getElem?_reverse (by omega), hn]; exact hp
/-- Lists that are there. -/
def Bag (w : World) (L : List (Option Addr × Nat × Nat × List Pr)) : Prop := ∀ e ∈ L, SlD w e.1 e.2.1 e.2.2.1 e.2.2.2
theorem Bag.step {w w' : World} {L : List (Option Addr × Nat × Nat × List Pr)} (h : Bag w L) (hS : Below w.heap.size w w') : Bag w' L := fun e he => sd_step (h e he) hS
theorem Bag.at {w : World} {L : List (Option Addr × Nat × Nat × List Pr)} (h : Bag w L) (A : Option Addr) (n c : Nat) (l : List Pr) (hm : (A, n, c, l) ∈ L) : SlD w A n c l := h _ hm
theorem Bag.cons {w : World} {L : List (Option Addr × Nat × Nat × List Pr)} (h : Bag w L) {A : Option Addr} {n c : Nat} {l : List Pr} (hs : SlD w A n c l) : Bag w ((A, n, c, l) :: L) := fun e he => by
  rcases List.mem_cons.1 he with rfl | he
  · exact hs
  · exact h e he
theorem own_sdn {w : World} {base : Nat} {v : Value} {l : List Pr} {n : Nat} (h : OwnS w base v l) (hn : l.length = n) : ∃ A cap, v = .slice A n cap ∧ SlD w A n cap l := by
  obtain ⟨A, cap, e, hs, _⟩ := own_sd h
  subst hn
  exact ⟨A, cap, e, hs⟩
theorem awakeEnd {w0 w : World} (BB : Below w0.heap.size w0 w) : Calls Try.prog 8 #[] w fun e w' => e = .returned (.bool true) ∧ Below w0.heap.size w0 w' := by
  refine (awakeC w).mono ?_
  rintro e w1 ⟨rfl, hS⟩
  exact ⟨rfl, BB.trans (hS.mono BB.size)⟩
set_option maxRecDepth 100000 in
set_option maxHeartbeats 8000000 in
theorem lawOk {A B : Option Addr} {n m : Nat} (c d : Nat) {a b : List Pr} (w : World) (h : SlD w A n c a) (hk : SlD w B m d b) (hn : n ≤ 200) (hm : m ≤ 200) (fa : fineS a = 0) (fb : fineS b = 0) : RetB Try.prog 6 #[.slice A n c, .slice B m d] w (.bool true) := by
  have han : a.length = n := h.1.1
  have t1 : decide ((n : Int) > 200) = false := decide_eq_false (by omega)
  have t2 : decide ((m : Int) > 200) = false := decide_eq_false (by omega)
  obtain ⟨old, hold⟩ : ∃ x, sortS a = x := ⟨_, rfl⟩
  obtain ⟨now, hnow⟩ : ∃ x, sortS b = x := ⟨_, rfl⟩
  obtain ⟨no, hno⟩ : ∃ x, old.length = x := ⟨_, rfl⟩
  obtain ⟨nn, hnn⟩ : ∃ x, now.length = x := ⟨_, rfl⟩
  have hro : risen old := by rw [← hold]; exact sortS_risen a
  have hrn : risen now := by rw [← hnow]; exact sortS_risen b
  have lo : no ≤ 200 := by rw [← hno, ← hold]; exact Nat.le_trans (sortS_len a) (by omega)
  have ln : nn ≤ 200 := by rw [← hnn, ← hnow]; exact Nat.le_trans (sortS_len b) (by have := hk.1.1; omega)
  have sa : sortA a = old := by unfold sortA; rw [if_pos fa, hold]
  have sb : sortA b = now := by unfold sortA; rw [if_pos fb, hnow]
  have fo : fineS old = 0 := by rw [← hold]; exact fine_sub fa (fun x hx => sortS_mem.1 hx) (by rw [hold, hno]; omega)
  have fn : fineS now = 0 := by rw [← hnow]; exact fine_sub fb (fun x hx => sortS_mem.1 hx) (by rw [hnow, hnn]; omega)
  have so : sortA old = old := by unfold sortA; rw [if_pos fo, sortS_id hro]
  have fr : fineS a.reverse = 0 := fine_sub fa (fun x hx => rev_mem.1 hx) (by rw [List.length_reverse]; omega)
  have sr : sortA a.reverse = old := by unfold sortA; rw [if_pos fr, ← hold]; exact sortS_same fun x => rev_mem
  have co : checkS old = 0 := by rw [← hold]; exact check_sorted fa
  have cn : checkS now = 0 := by rw [← hnow]; exact check_sorted fb
  have d1 : diffE old now = 0 := by unfold diffE; rw [if_neg (by omega), if_pos ⟨co, cn⟩]
  have d2 : diffE now old = 0 := by unfold diffE; rw [if_neg (by omega), if_pos ⟨cn, co⟩]
  obtain ⟨x, hx⟩ : ∃ x, onl now old false = x := ⟨_, rfl⟩
  obtain ⟨y, hy⟩ : ∃ x, onl old now true = x := ⟨_, rfl⟩
  obtain ⟨z, hz⟩ : ∃ x, onl old now false = x := ⟨_, rfl⟩
  have hy2 : onl now old true = y := by rw [← hy]; exact (onl_both hro hrn).symm
  have lx : x.length ≤ 200 := by rw [← hx]; exact Nat.le_trans (onl_len _ _ _) (by omega)
  have ly : y.length ≤ 200 := by rw [← hy]; exact Nat.le_trans (onl_len _ _ _) (by omega)
  have lz : z.length ≤ 200 := by rw [← hz]; exact Nat.le_trans (onl_len _ _ _) (by omega)
  have lxy : x.length + y.length = nn := by rw [← hx, ← hy, len_now hro hrn, hnn]
  have mx : ∀ q ∈ x ++ y, q ∈ now := fun q hq => by
    rw [← hx, ← hy2] at hq
    rcases List.mem_append.1 hq with hq | hq <;> exact (onl_mem.1 hq).1
  have mz : ∀ q ∈ y ++ z, q ∈ old := fun q hq => by
    rw [← hy, ← hz] at hq
    rcases List.mem_append.1 hq with hq | hq <;> exact (onl_mem.1 hq).1
  have fx : fineS (x ++ y) = 0 := fine_sub fn mx (by rw [List.length_append]; omega)
  have fz : fineS (y ++ z) = 0 := fine_sub fo mz (by rw [List.length_append]; omega)
  have sx : sortA (x ++ y) = now := by unfold sortA; rw [if_pos fx, ← hx, ← hy, began_stayed hro hrn]
  have sz : sortA (y ++ z) = old := by unfold sortA; rw [if_pos fz, ← hy, ← hz, stayed_ended hro hrn]
  have H := Lib.hid h
  have K : Bag w [(A, n, c, a), (B, m, d, b)] := fun e he => by
    simp only [List.mem_cons, List.not_mem_nil, or_false] at he
    rcases he with rfl | rfl
    · exact h
    · exact hk
  have BB := Below.refl w.heap.size w
  have XO := Lib.hid (show fineS a = 0 ∧ fineS b = 0 ∧ fineS a.reverse = 0 ∧ fineS old = 0 ∧ fineS (x ++ y) = 0 ∧ fineS (y ++ z) = 0 from ⟨fa, fb, fr, fo, fx, fz⟩)
  have SO := Lib.hid (show sortA a = old ∧ sortA b = now ∧ sortA a.reverse = old ∧ sortA old = old ∧ sortA (x ++ y) = now ∧ sortA (y ++ z) = old from ⟨sa, sb, sr, so, sx, sz⟩)
  have DO := Lib.hid (show (diffE old now = 0 ∧ diffE now old = 0) ∧ onl now old false = x ∧ onl old now true = y ∧ onl old now false = z ∧ onl now old true = y from ⟨⟨d1, d2⟩, hx, hy, hz, hy2⟩)
  have LN := Lib.hid (show old.length = no ∧ now.length = nn ∧ a.length = n from ⟨hno, hnn, han⟩)
  clear h hk hold hnow hro hrn sa sb fo fn so fr sr co cn d1 d2 hx hy hz hy2 mx mz fx fz sx sz fa fb hno hnn han
  go_enter Try.func6, Try.ntmps6
  go_wp2_with fail
  refine (sortedC c w (K.at A n c a (by simp)).1).mono ?_
  rintro e w1 ⟨u, rfl, hu, hS⟩
  rw [SO.out.1] at hu
  rw [XO.out.1]
  replace K := K.step hS; replace BB := BB.trans (hS.mono BB.size); clear hS
  obtain ⟨A1, c1, rfl, hnew⟩ := own_sdn hu LN.out.1; replace K := K.cons hnew; clear hnew hu
  go_wp2_with fail
  refine (sortedC d w1 (K.at B m d b (by simp)).1).mono ?_
  rintro e w2 ⟨u, rfl, hu, hS⟩
  rw [SO.out.2.1] at hu
  rw [XO.out.2.1]
  replace K := K.step hS; replace BB := BB.trans (hS.mono BB.size); clear hS
  obtain ⟨A2, c2, rfl, hnew⟩ := own_sdn hu LN.out.2.1; replace K := K.cons hnew; clear hnew hu
  go_wp2_with fail
  have hz2 := BB.size
  go_loopw [9, 10] (fun v i wr => ∃ k : Nat, k ≤ n ∧ i = .int .i64 (k : Int) ∧ OwnS wr w2.heap.size v (a.reverse.take k) ∧ Below w2.heap.size w2 wr) (fun _ i _ => n - (RowKit.intOf i).toNat)
  case atStart => exact ⟨0, by omega, rfl, OwnS.nil _ _, Below.refl _ _⟩
  case round =>
    obtain ⟨k, hk, rfl, hO, hW⟩ := hrel
    by_cases hlt : k < n
    · obtain ⟨t, ht⟩ : ∃ t, n = t + k + 1 := ⟨n - 1 - k, by omega⟩
      obtain ⟨t0, ht0⟩ : ∃ t0, t0 = t + k := ⟨_, rfl⟩
      obtain ⟨p, hp⟩ : ∃ p, a[t]? = some p := ⟨_, List.getElem?_eq_getElem (by have := LN.out.2.2; omega)⟩
      have RV := Lib.hid (rev_take (k := k) LN.out.2.2 hlt (by rw [show n - 1 - k = t by omega]; exact hp))
      obtain ⟨bb, off, rfl, hb0, hsA⟩ := (K.at A n c a (by simp)).1.2 (by omega)
      have at1 := hsA.step hb0 hW _ _ hp
      have z0 := at1 0 _ rfl; have z1 := at1 1 _ rfl
      simp only [Nat.add_zero] at z0
      have t3 : decide ((k : Int) < (n : Int)) = true := decide_eq_true (by omega)
      have i0 : 0 ≤ (t : Int) ∧ (t : Int) < n := by omega
      have e0 : (n : Int) - 1 = t0 := by omega
      have e1 : (t0 : Int) - k = t := by omega
      have r0 : 0 ≤ (t0 : Int) ∧ (t0 : Int) ≤ 99999 ∧ 0 ≤ (t : Int) ∧ (t : Int) ≤ 99999 := by omega
      have v1 : IntKind.i64.wrap ((n : Int) - 1) = t0 := by rw [e0]; exact QCm.wrapS r0.1 r0.2.1
      have v2 : wrap64 ((n : Int) - 1) = t0 := by rw [e0]; exact QCm.wrapS' r0.1 r0.2.1
      have v3 : IntKind.i64.wrap ((t0 : Int) - k) = t := by rw [e1]; exact QCm.wrapS r0.2.2.1 r0.2.2.2
      have v4 : wrap64 ((t0 : Int) - k) = t := by rw [e1]; exact QCm.wrapS' r0.2.2.1 r0.2.2.2
      have S1 := (Below.refl wr.heap.size wr).alloc (Nat.le_refl _) (.cells [.int .i64 p.a, .int .i64 p.b].toArray 39)
      have hO1 := hO.step S1
      have hX : Box (wr.alloc (.cells [.int .i64 p.a, .int .i64 p.b].toArray 39)) wr.heap.size [.int .i64 p.a, .int .i64 p.b] 39 := Box.new rfl
      have hB1 := hW.alloc hW.size (.cells [.int .i64 p.a, .int .i64 p.b].toArray 39)
      have hlen : (a.reverse.take k).length ≤ 100000 := by rw [List.length_take]; omega
      have ms : n - (k + 1) < n - k ∧ k + 1 ≤ n := by omega
      clear e0 e1 r0 ht ht0 hp hsA at1 S1 hO hW hlt hk K H
      go_wp2_with (at_builtin; refine wpL_app (t := p) (by kernel_rfl) (.tmp 77) (.tmp 86) (by rfl) (by rfl) hO1 (by rfl) (hX.part 0 2) hlen hB1.size ?_; intro v8 w8 hO8 hB8)
      rw [← RV.out] at hO8
      clear v1 v2 v3 v4
      exact ⟨⟨k + 1, ms.2, by simp, hO8, hB8 _ hB1⟩, by simp [RowKit.intOf]; omega⟩
    · obtain rfl : k = n := by omega
      have t3 : decide ((k : Int) < (k : Int)) = false := decide_eq_false (by omega)
      rw [List.take_of_length_le (by rw [List.length_reverse]; have := LN.out.2.2; omega)] at hO
      have hS := hW
      replace K := K.step hS; replace BB := BB.trans (hS.mono BB.size); clear hS
      obtain ⟨A3, c3, e3, h3⟩ := own_sdn (n := k) hO (by rw [List.length_reverse]; exact LN.out.2.2)
      subst e3
      replace K := K.cons h3
      clear hO h3 hW H t3
      have t3 : decide ((k : Int) < (k : Int)) = false := decide_eq_false (by omega)
      go_wp2_with fail
      refine (sortedC c3 wr (K.at A3 k c3 a.reverse (by simp)).1).mono ?_
      rintro e w3 ⟨u, rfl, hu, hS⟩
      rw [SO.out.2.2.1] at hu
      rw [XO.out.2.2.1]
      replace K := K.step hS; replace BB := BB.trans (hS.mono BB.size); clear hS
      obtain ⟨A4, c4, rfl, hnew⟩ := own_sdn hu LN.out.1; replace K := K.cons hnew; clear hnew hu
      go_wp2_with fail
      refine (sortedC c1 w3 (K.at A1 no c1 old (by simp)).1).mono ?_
      rintro e w4 ⟨u, rfl, hu, hS⟩
      rw [SO.out.2.2.2.1] at hu
      rw [XO.out.2.2.2.1]
      replace K := K.step hS; replace BB := BB.trans (hS.mono BB.size); clear hS
      obtain ⟨A5, c5, rfl, hnew⟩ := own_sdn hu LN.out.1; replace K := K.cons hnew; clear hnew hu
      go_wp2_with fail
      refine (sameC w4 (K.at A4 no c4 old (by simp)).1 (K.at A1 no c1 old (by simp)).1 (by omega)).mono ?_
      rintro e w5 ⟨rfl, hS⟩
      rw [decide_eq_true (rfl : old = old)]
      replace K := K.step hS; replace BB := BB.trans (hS.mono BB.size); clear hS
      go_wp2_with fail
      refine (sameC w5 (K.at A5 no c5 old (by simp)).1 (K.at A1 no c1 old (by simp)).1 (by omega)).mono ?_
      rintro e w6 ⟨rfl, hS⟩
      rw [decide_eq_true (rfl : old = old)]
      replace K := K.step hS; replace BB := BB.trans (hS.mono BB.size); clear hS
      go_wp2_with fail
      refine (diffC c1 c2 w6 (K.at A1 no c1 old (by simp)) (K.at A2 nn c2 now (by simp))).mono ?_
      rw [if_pos DO.out.1.1, if_pos DO.out.1.1, if_pos DO.out.1.1, DO.out.2.1, DO.out.2.2.1, DO.out.2.2.2.1, DO.out.1.1]
      rintro e w7 ⟨u1, u2, u3, rfl, hu1, hu2, hu3, hS⟩
      replace K := K.step hS; replace BB := BB.trans (hS.mono BB.size); clear hS
      obtain ⟨A6, c6, rfl, hnew⟩ := own_sdn hu1 rfl; replace K := K.cons hnew; clear hnew hu1
      obtain ⟨A7, c7, rfl, hnew⟩ := own_sdn hu2 rfl; replace K := K.cons hnew; clear hnew hu2
      obtain ⟨A8, c8, rfl, hnew⟩ := own_sdn hu3 rfl; replace K := K.cons hnew; clear hnew hu3
      go_wp2_with fail
      refine (diffC c2 c1 w7 (K.at A2 nn c2 now (by simp)) (K.at A1 no c1 old (by simp))).mono ?_
      rw [if_pos DO.out.1.2, if_pos DO.out.1.2, if_pos DO.out.1.2, DO.out.2.1, DO.out.2.2.2.1, DO.out.2.2.2.2, DO.out.1.2]
      rintro e w8 ⟨u1, u2, u3, rfl, hu1, hu2, hu3, hS⟩
      replace K := K.step hS; replace BB := BB.trans (hS.mono BB.size); clear hS
      obtain ⟨A9, c9, rfl, hnew⟩ := own_sdn hu1 rfl; replace K := K.cons hnew; clear hnew hu1
      obtain ⟨A10, c10, rfl, hnew⟩ := own_sdn hu2 rfl; replace K := K.cons hnew; clear hnew hu2
      obtain ⟨A11, c11, rfl, hnew⟩ := own_sdn hu3 rfl; replace K := K.cons hnew; clear hnew hu3
      have hn0 : OwnS (w8.alloc (.cells #[] 39)) w8.heap.size (.slice (some ⟨w8.heap.size, 0, none⟩) 0 0) [] := own_new w8 [] (by simp)
      have S0 := (Below.refl w8.heap.size w8).alloc (Nat.le_refl _) (.cells #[] 39)
      have C1 : SlC (w8.alloc (.cells #[] 39)) A6 x.length c6 x := ⟨((K.at A6 x.length c6 x (by simp)).1.step S0), (K.at A6 x.length c6 x (by simp)).2.1⟩
      go_wp2_with (first | (at_builtin; refine wpL_all (by kernel_rfl) (.tmp 133) (.tmp 134) (by rfl) (by rfl) hn0 (by rfl) C1 (by simp) (by omega) S0.size ?_; intro va wva hva hBa; have Ba := hBa _ S0; have C2 : SlC wva A7 y.length c7 y := ⟨((K.at A7 y.length c7 y (by simp)).1.step Ba), (K.at A7 y.length c7 y (by simp)).2.1⟩; rw [List.nil_append] at hva) | (at_builtin; refine wpL_all (by kernel_rfl) (.tmp 135) (.tmp 136) (by rfl) (by rfl) hva (by rfl) C2 (by omega) (by omega) Ba.size ?_; intro vb wvb hvb hBb; have Bb := hBb _ Ba))
      have hS := Bb
      replace K := K.step hS; replace BB := BB.trans (hS.mono BB.size); clear hS
      obtain ⟨Ax, cx, e3, h3⟩ := own_sdn (n := nn) hvb (by rw [List.length_append]; exact lxy)
      subst e3
      replace K := K.cons h3
      clear h3 hvb hn0 S0 C1 Ba C2 Bb hva hBa hBb
      refine (sortedC cx wvb (K.at Ax nn cx (x ++ y) (by simp)).1).mono ?_
      rintro e w9 ⟨u, rfl, hu, hS⟩
      rw [SO.out.2.2.2.2.1] at hu
      rw [XO.out.2.2.2.2.1]
      replace K := K.step hS; replace BB := BB.trans (hS.mono BB.size); clear hS
      obtain ⟨A12, c12, rfl, hnew⟩ := own_sdn hu LN.out.2.1; replace K := K.cons hnew; clear hnew hu
      have lyz : (y ++ z).length = y.length + z.length := List.length_append
      have hn0 : OwnS (w9.alloc (.cells #[] 39)) w9.heap.size (.slice (some ⟨w9.heap.size, 0, none⟩) 0 0) [] := own_new w9 [] (by simp)
      have S0 := (Below.refl w9.heap.size w9).alloc (Nat.le_refl _) (.cells #[] 39)
      have C1 : SlC (w9.alloc (.cells #[] 39)) A7 y.length c7 y := ⟨((K.at A7 y.length c7 y (by simp)).1.step S0), (K.at A7 y.length c7 y (by simp)).2.1⟩
      go_wp2_with (first | (at_builtin; refine wpL_all (by kernel_rfl) (.tmp 142) (.tmp 143) (by rfl) (by rfl) hn0 (by rfl) C1 (by simp) (by omega) S0.size ?_; intro va wva hva hBa; have Ba := hBa _ S0; have C2 : SlC wva A8 z.length c8 z := ⟨((K.at A8 z.length c8 z (by simp)).1.step Ba), (K.at A8 z.length c8 z (by simp)).2.1⟩; rw [List.nil_append] at hva) | (at_builtin; refine wpL_all (by kernel_rfl) (.tmp 144) (.tmp 145) (by rfl) (by rfl) hva (by rfl) C2 (by omega) (by omega) Ba.size ?_; intro vb wvb hvb hBb; have Bb := hBb _ Ba))
      have hS := Bb
      replace K := K.step hS; replace BB := BB.trans (hS.mono BB.size); clear hS
      obtain ⟨Ay, cy, e3, h3⟩ := own_sdn (n := y.length + z.length) hvb lyz
      subst e3
      replace K := K.cons h3
      clear h3 hvb hn0 S0 C1 Ba C2 Bb hva hBa hBb lyz
      refine (sortedC cy wvb (K.at Ay (y.length + z.length) cy (y ++ z) (by simp)).1).mono ?_
      rintro e w10 ⟨u, rfl, hu, hS⟩
      rw [SO.out.2.2.2.2.2] at hu
      rw [XO.out.2.2.2.2.2]
      replace K := K.step hS; replace BB := BB.trans (hS.mono BB.size); clear hS
      obtain ⟨A13, c13, rfl, hnew⟩ := own_sdn hu LN.out.1; replace K := K.cons hnew; clear hnew hu
      go_wp2_with fail
      refine (sameC w10 (K.at A12 nn c12 now (by simp)).1 (K.at A2 nn c2 now (by simp)).1 (by omega)).mono ?_
      rintro e w11 ⟨rfl, hS⟩
      rw [decide_eq_true (rfl : now = now)]
      replace K := K.step hS; replace BB := BB.trans (hS.mono BB.size); clear hS
      go_wp2_with fail
      refine (sameC w11 (K.at A13 no c13 old (by simp)).1 (K.at A1 no c1 old (by simp)).1 (by omega)).mono ?_
      rintro e w12 ⟨rfl, hS⟩
      rw [decide_eq_true (rfl : old = old)]
      replace K := K.step hS; replace BB := BB.trans (hS.mono BB.size); clear hS
      have s1 : (x.length : Int) + y.length = nn := by omega
      have r0 : 0 ≤ (nn : Int) ∧ (nn : Int) ≤ 99999 := by omega
      have v1 : IntKind.i64.wrap ((x.length : Int) + y.length) = nn := by rw [s1]; exact QCm.wrapS r0.1 r0.2
      have v2 : wrap64 ((x.length : Int) + y.length) = nn := by rw [s1]; exact QCm.wrapS' r0.1 r0.2
      have v3 : IntKind.i64.wrap (nn : Int) = nn := QCm.wrapS r0.1 r0.2
      have v4 : wrap64 (nn : Int) = nn := QCm.wrapS' r0.1 r0.2
      have L3 : x.length ≤ 1000000 ∧ y.length ≤ 1000000 ∧ z.length ≤ 1000000 := by clear v1 v2 v3 v4; omega
      clear s1
      go_wp2_with fail
      refine (sameC w12 (K.at A9 z.length c9 z (by simp)).1 (K.at A8 z.length c8 z (by simp)).1 L3.2.2).mono ?_
      rintro e w13 ⟨rfl, hS⟩
      rw [decide_eq_true (rfl : z = z)]
      replace K := K.step hS; replace BB := BB.trans (hS.mono BB.size); clear hS
      clear r0 v1 v2 v3 v4
      go_wp2_with fail
      refine (sameC w13 (K.at A10 y.length c10 y (by simp)).1 (K.at A7 y.length c7 y (by simp)).1 L3.2.1).mono ?_
      rintro e w14 ⟨rfl, hS⟩
      rw [decide_eq_true (rfl : y = y)]
      replace K := K.step hS; replace BB := BB.trans (hS.mono BB.size); clear hS
      go_wp2_with fail
      refine (sameC w14 (K.at A11 x.length c11 x (by simp)).1 (K.at A6 x.length c6 x (by simp)).1 L3.1).mono ?_
      rintro e w15 ⟨rfl, hS⟩
      rw [decide_eq_true (rfl : x = x)]
      replace K := K.step hS; replace BB := BB.trans (hS.mono BB.size); clear hS
      go_wp2_with fail
      refine (awakeEnd BB).mono ?_
      rintro e w16 ⟨rfl, hB⟩
      go_wp2_with fail
      go_ret
      exact ⟨rfl, hB⟩
end LWh
end Go.Proofs.Ytocelepohkbooaa
