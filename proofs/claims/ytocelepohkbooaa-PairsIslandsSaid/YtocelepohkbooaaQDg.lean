/- What began, stayed and ended of pairs: the walk. Condition: the slices' cells are as told. -/
import Derived.Test.YtocelepohkbooaaQMp
import Derived.Test.YtocelepohkbooaaQAp
namespace Go.Proofs.Ytocelepohkbooaa
set_option linter.unusedVariables false
set_option linter.unusedSimpArgs false
open Go.RowKit Go.NP
namespace QDg
open QCk QCl QDf QMp
theorem cf24 (args : Array Value) (w1 : World) : (callFunc 24 args).run Try.prog w1 = .ok (.enter 24 args) w1 := enters Try.func24 (by kernel_rfl) (by kernel_rfl) args w1
theorem cf12 (args : Array Value) (w1 : World) : (callFunc 12 args).run Try.prog w1 = .ok (.enter 12 args) w1 := enters Try.func12 (by kernel_rfl) (by kernel_rfl) args w1
/-- A slice of pairs with room for them; nil has no room. -/
def SlD (w : World) (A : Option Addr) (n cap : Nat) (l : List Pr) : Prop := SlS w A n l ∧ (A = none → cap = 0) ∧ n ≤ cap
theorem add_plain (b off n : Nat) : (⟨b, off, none⟩ : Addr).add n = ⟨b, off + n, none⟩ := by
  unfold Addr.add
  by_cases h : n = 0
  · simp [h]
  · simp [h]
theorem SlD.drop {w : World} {A : Option Addr} {n cap k : Nat} {l : List Pr} (h : SlD w A n cap l) (hk : k ≤ n) : SlC w (if cap = k then A else A.map fun x => x.add (k * 2)) (n - k) (cap - k) (l.drop k) := by
  obtain ⟨⟨h1, h2⟩, h3, h4⟩ := h
  refine ⟨⟨by rw [List.length_drop, h1], fun hn => ?_⟩, fun hA => ?_⟩
  · obtain ⟨b, off, rfl, hb, hs⟩ := h2 (by omega)
    rw [if_neg (by omega)]
    refine ⟨b, off + k * 2, by rw [Option.map_some, add_plain], hb, fun j s hj => ?_⟩
    rw [List.getElem?_drop] at hj
    have := hs (k + j) s hj
    rw [show off + k * 2 + j * 2 = off + (k + j) * 2 by omega]
    exact this
  · split at hA
    · omega
    · cases A with
      | none => have := h3 rfl; omega
      | some a => cases hA
set_option maxRecDepth 100000 in
set_option maxHeartbeats 4000000 in
theorem diffOk {A B : Option Addr} {n m : Nat} {c1 c2 : Nat} {old now : List Pr} (w : World) (h : SlD w A n c1 old) (ho : SlD w B m c2 now) (k1 : checkS old = 0) (k2 : checkS now = 0) :
    Ret3 14 #[.slice A n c1, .slice B m c2] w (onl now old false) (onl old now true) (onl old now false) 0 := by
  have hn := h.1.1; have hm := ho.1.1
  have hn6 := checkS_len k1; have hm6 := checkS_len k2
  have H := Lib.hid h; have HO := Lib.hid ho
  have HC1 := Lib.hid fun w1 (hS : Below w.heap.size w w1) => ((checkC c1 w1 (h.1.step hS)).eq (v' := .int .i64 0) (by rw [k1]))
  have HC2 := Lib.hid fun w1 (hS : Below w.heap.size w w1) => ((checkC c2 w1 (ho.1.step hS)).eq (v' := .int .i64 0) (by rw [k2]))
  have hr1 : risen old ∧ ∀ p ∈ old, okP p := by
    unfold checkS at k1; split at k1
    · split at k1
      · exact ⟨by assumption, (fineS_ok (by assumption)).2⟩
      · exact absurd k1 (by decide)
    · exact absurd k1 (by assumption)
  have hr2 : risen now ∧ ∀ p ∈ now, okP p := by
    unfold checkS at k2; split at k2
    · split at k2
      · exact ⟨by assumption, (fineS_ok (by assumption)).2⟩
      · exact absurd k2 (by decide)
    · exact absurd k2 (by assumption)
  have OK1 := Lib.hid hr1.2; have OK2 := Lib.hid hr2.2
  have hcap := ho.2.2; have hcap1 := h.2.2
  have S0 := Lib.hid (Side.start hr1.1 hr2.1)
  clear h ho k1 k2 hr1 hr2
  unfold Ret3
  go_enter Try.func14, Try.ntmps14
  go_wp2_with fail
  go_step3
  go_wp2_with fail
  refine (HC1.out w (Below.refl _ _)).mono ?_
  rintro e w1 ⟨rfl, hW⟩
  go_wp2_with fail
  refine (HC2.out w1 hW).mono ?_
  rintro e w2 ⟨rfl, hS⟩
  have hW := hW.trans (hS.mono hW.size)
  clear hS HC1 HC2
  go_wp2_with fail
  go_step3
  go_wp2_with fail
  go_loopw [4, 5, 6, 10, 11] (fun u v t i k wr => ∃ x y : Nat, i = .int .i64 x ∧ k = .int .i64 y ∧ x ≤ n ∧ y ≤ m ∧ Side old now x y ∧ OwnS wr w.heap.size u (onl (now.take y) old false) ∧ OwnS wr w.heap.size v (onl (old.take x) now true) ∧ OwnS wr w.heap.size t (onl (old.take x) now false) ∧ Apart u v ∧ Apart u t ∧ Apart v t ∧ Below w.heap.size w wr) (fun _ _ _ i k _ => (n - (intOf i).toNat) + (m - (intOf k).toNat))
  case atStart => exact ⟨0, 0, rfl, rfl, Nat.zero_le _, Nat.zero_le _, S0.out, OwnS.nil _ _, OwnS.nil _ _, OwnS.nil _ _, Apart.nil _, Apart.nil _, Apart.nil _, hW⟩
  case round =>
    clear hW
    obtain ⟨i, k, rfl, rfl, hi, hk, hS, hu, hv, ht, auv, aut, avt, hW⟩ := hrel
    by_cases q1 : i = n
    · subst q1
      have e1 : ((i : Int) == (i : Int)) = true := by simp
      have hend := Lib.hid (hS.end_old (by omega))
      have hlen : (onl (now.take k) old false).length ≤ 100000 := Nat.le_trans (onl_len _ _ _) (by rw [List.length_take]; omega)
      have hD := SlD.drop (k := k) (show SlD wr B m c2 now from ⟨HO.out.1.step hW, HO.out.2⟩) hk
      go_wp2_with (at_builtin; refine wpL_allK (by kernel_rfl) (.tmp 34) (.tmp 37) (by rfl) (by rfl) hu (by rfl) hD hlen (by omega) hW.size ?_; intro u8 w8 hu8 hB8 hk8)
      all_goals
        have hv8 := (hk8 _ _ hv auv.symm).1
        have ht8 := (hk8 _ _ ht aut.symm).1
        have hW8 := hB8 _ hW
        rw [hend.out.1] at hu8
        rw [hend.out.2.1] at hv8
        rw [hend.out.2.2] at ht8
        exact bodyPost_ret (v := .tuple #[u8, u5, u6, .int .i64 0]) (by simp [results, Try.results14, go_sem]) rfl ⟨u8, u5, u6, rfl, hu8, hv8, ht8, hW8⟩
    have e1 : ((i : Int) == (n : Int)) = false := by simp only [beq_eq_false_iff_ne, ne_eq]; omega
    by_cases q2 : k = m
    · subst q2
      have e2 : ((k : Int) == (k : Int)) = true := by simp
      have hend := Lib.hid (hS.end_new (by omega))
      have hlen : (onl (old.take i) now false).length ≤ 100000 := Nat.le_trans (onl_len _ _ _) (by rw [List.length_take]; omega)
      have hD := SlD.drop (k := i) (show SlD wr A n c1 old from ⟨H.out.1.step hW, H.out.2⟩) hi
      rw [if_neg (show ¬ c1 = i by omega)] at hD
      go_wp2_with (at_builtin; refine wpL_allK (by kernel_rfl) (.tmp 44) (.tmp 47) (by rfl) (by rfl) ht (by rfl) hD hlen (by omega) hW.size ?_; intro t8 w8 ht8 hB8 hk8)
      all_goals
        have hu8 := (hk8 _ _ hu aut).1
        have hv8 := (hk8 _ _ hv avt).1
        have hW8 := hB8 _ hW
        rw [hend.out.1] at hu8
        rw [hend.out.2.1] at hv8
        rw [hend.out.2.2] at ht8
        simp only [Exit.noGoto]
        exact bodyPost_ret (v := .tuple #[u4, u5, t8, .int .i64 0]) (by simp [results, Try.results14, go_sem]) rfl ⟨u4, u5, t8, rfl, hu8, hv8, ht8, hW8⟩
    have e2 : ((k : Int) == (m : Int)) = false := by simp only [beq_eq_false_iff_ne, ne_eq]; omega
    obtain ⟨x, hx⟩ : ∃ x, old[i]? = some x := ⟨_, List.getElem?_eq_getElem (by omega)⟩
    obtain ⟨y, hy⟩ : ∃ y, now[k]? = some y := ⟨_, List.getElem?_eq_getElem (by omega)⟩
    obtain ⟨b1, off1, rfl, hb1, hs1⟩ := H.out.1.2 (by omega)
    obtain ⟨b2, off2, rfl, hb2, hs2⟩ := HO.out.1.2 (by omega)
    have at1 := Lib.hid (hs1.step hb1 hW i x hx)
    have at2 := Lib.hid (hs2.step hb2 hW k y hy)
    have okx := OK1.out x (List.mem_of_getElem? hx); have oky := OK2.out y (List.mem_of_getElem? hy)
    have O := Lib.hid (fun w => orderC okx oky w)
    have hbz1 : b1 < wr.heap.size := by have := hW.size; omega
    have hbz2 : b2 < wr.heap.size := by have := hW.size; omega
    have HX := Lib.hid hx; have HY := Lib.hid hy
    have hl1 : (onl (now.take k) old false).length ≤ 100000 := Nat.le_trans (onl_len _ _ _) (by rw [List.length_take]; omega)
    have hl2 : (onl (old.take i) now true).length ≤ 100000 := Nat.le_trans (onl_len _ _ _) (by rw [List.length_take]; omega)
    have hl3 : (onl (old.take i) now false).length ≤ 100000 := Nat.le_trans (onl_len _ _ _) (by rw [List.length_take]; omega)
    have hin : i < n := by omega
    have hkm : k < m := by omega
    clear hx hy hs1 hs2 okx oky
    go_wp2_with fail
    refine wp_region_ph [(9, .free [])] (by kernel_rfl) (by kernel_rfl) ?_
    refine Ph.belowd ?_
    simp only [List.drop_succ_cons, List.drop_zero, List.take_succ_cons, List.take_zero, Nat.reduceSub, Nat.sub_zero]
    iterate 3 (refine SeqO.val (v := ?_) (by rfl) (by rfl) (fun w1 hS => ?_) ?_; rotate_left; (· obtain ⟨hc, hcf⟩ := bcell hS; go_simp; try with_reducible rfl); simp only [Act.put, List.setIfInBounds_toArray, List.set_cons_zero, List.set_cons_succ])
    refine SeqO.at (l := [.int .i64 x.a, .int .i64 x.b]) (by rfl) (by rfl) hbz1 at1.out Try.underlying39 (by rfl) (by kernel_rfl) (by rfl) (by rfl) ?_
    simp only [Act.put, List.setIfInBounds_toArray, List.set_cons_zero, List.set_cons_succ]
    iterate 3 (refine SeqO.val (v := ?_) (by rfl) (by rfl) (fun w1 hS => ?_) ?_; rotate_left; (· obtain ⟨hc, hcf⟩ := bcell hS; go_simp; try with_reducible rfl); simp only [Act.put, List.setIfInBounds_toArray, List.set_cons_zero, List.set_cons_succ])
    refine SeqO.at (l := [.int .i64 y.a, .int .i64 y.b]) (by rfl) (by rfl) hbz2 at2.out Try.underlying39 (by rfl) (by kernel_rfl) (by rfl) (by rfl) ?_
    simp only [Act.put, List.setIfInBounds_toArray, List.set_cons_zero, List.set_cons_succ]
    refine SeqO.callv (by rfl) (by rfl) (by rfl) cf24 (by simp [Act.eval]) (fun w1 hS => O.out w1) ?_
    simp only [Act.put, List.setIfInBounds_toArray, List.set_cons_zero, List.set_cons_succ]
    refine SeqO.nil0 fun w3 hS3 => ?_
    refine Ph.last ?_
    simp only [List.drop_succ_cons, List.drop_zero, List.take_succ_cons, List.take_zero, Nat.reduceSub, Nat.sub_zero]
    iterate 1 (with_reducible refine wpL_val (v := ?_) ?_ ?_ ?_; rotate_left; (· kernel_rfl); (· go_simp; try with_reducible rfl); conv => arg 5; simp only [Act.put, List.setIfInBounds_toArray, List.set_cons_zero, List.set_cons_succ])
    refine wpList_nil ?_
    have hu := hu.step hS3; have hv := hv.step hS3; have ht := ht.step hS3
    have at1 := (at1.out.step hbz1 hS3); have at2 := (at2.out.step hbz2 hS3)
    have hW := hW.trans (hS3.mono hW.size)
    clear hS3 O hbz1 hbz2
    have z0 := at1 0 _ rfl; have z1 := at1 1 _ rfl
    have y0 := at2 0 _ rfl; have y1 := at2 1 _ rfl
    simp only [Nat.add_zero] at z0 y0
    clear at1 at2
    by_cases c : ltP x y
    · have hno := hS.no_old HX.out HY.out c
      have hS2 := Lib.hid (hS.old HX.out HY.out c)
      have hof := Lib.hid (onl_f HX.out hno)
      have hx0 : ordI x y < 0 := (ordI_lt x y).2 c
      have c0 : decide (ordI x y < 0) = true := decide_eq_true hx0
      generalize ordI x y = q at *
      have hN := (Below.refl w3.heap.size w3).alloc (Nat.le_refl _) (.cells [.int .i64 x.a, .int .i64 x.b].toArray 39)
      have hu1 := hu.step hN; have hv1 := hv.step hN; have ht1 := ht.step hN
      have hB1 := hW.alloc hW.size (.cells [.int .i64 x.a, .int .i64 x.b].toArray 39)
      have hX : SlC (w3.alloc (.cells [.int .i64 x.a, .int .i64 x.b].toArray 39)) (some ⟨w3.heap.size, 0, none⟩) 1 1 [x] := one_sl (Box.new rfl)
      clear hS hno c hN HX HY
      go_wp2_with (at_builtin; refine wpL_allK (by kernel_rfl) (.tmp 72) (.tmp 77) (by rfl) (by rfl) ht1 (by rfl) hX hl3 (by omega) hB1.size ?_; intro t8 w8 ht8 hB8 hk8)
      have hu8 := (hk8 _ _ hu1 aut)
      have hv8 := (hk8 _ _ hv1 avt)
      have hW8 := hB8 _ hB1
      rw [← hof.out.1] at ht8
      exact ⟨⟨i + 1, k, by simp, rfl, by omega, hk, hS2.out, hu8.1, by rw [hof.out.2]; exact hv8.1, ht8, auv, hu8.2, hv8.2, hW8⟩, by simp [intOf]; omega⟩
    by_cases d : ltP y x
    · have hno := hS.no_new HX.out HY.out d
      have hS2 := Lib.hid (hS.new HX.out HY.out d)
      have hof := Lib.hid (onl_f HY.out hno)
      have hx0 : ¬ ordI x y < 0 := fun h => c ((ordI_lt x y).1 h)
      have hx1 : ordI x y ≠ 0 := fun h => by have := (ordI_zero x y).1 h; subst this; exact ltP_ne d rfl
      have c0 : decide (ordI x y < 0) = false := decide_eq_false hx0
      have c1' : decide (ordI x y > 0) = true := decide_eq_true (by omega)
      generalize ordI x y = q at *
      have hN := (Below.refl w3.heap.size w3).alloc (Nat.le_refl _) (.cells [.int .i64 y.a, .int .i64 y.b].toArray 39)
      have hu1 := hu.step hN; have hv1 := hv.step hN; have ht1 := ht.step hN
      have hB1 := hW.alloc hW.size (.cells [.int .i64 y.a, .int .i64 y.b].toArray 39)
      have hX : SlC (w3.alloc (.cells [.int .i64 y.a, .int .i64 y.b].toArray 39)) (some ⟨w3.heap.size, 0, none⟩) 1 1 [y] := one_sl (Box.new rfl)
      clear hS hno c d hN HX HY
      go_wp2_with (at_builtin; refine wpL_allK (by kernel_rfl) (.tmp 84) (.tmp 89) (by rfl) (by rfl) hu1 (by rfl) hX hl1 (by omega) hB1.size ?_; intro u8 w8 hu8 hB8 hk8)
      have hv8 := (hk8 _ _ hv1 auv.symm)
      have ht8 := (hk8 _ _ ht1 aut.symm)
      have hW8 := hB8 _ hB1
      rw [← hof.out.1] at hu8
      exact ⟨⟨i, k + 1, rfl, by simp, hi, by omega, hS2.out, hu8, hv8.1, ht8.1, hv8.2.symm, ht8.2.symm, avt, hW8⟩, by simp [intOf]; omega⟩
    · have hxy : x = y := (ordI_zero x y).1 (by
        have hx0 : ¬ ordI x y < 0 := fun h => c ((ordI_lt x y).1 h)
        have hx2 : ¬ ordI y x < 0 := fun h => d ((ordI_lt y x).1 h)
        unfold ordI at *
        split <;> split at * <;> omega)
      subst hxy
      have hS2 := Lib.hid (hS.both HX.out HY.out)
      have hot := Lib.hid (onl_t HX.out (List.mem_of_getElem? HY.out))
      have hon := Lib.hid (onl_t HY.out (List.mem_of_getElem? HX.out))
      have hx1 : ordI x x = 0 := (ordI_zero x x).2 rfl
      rw [hx1]
      have hN := (Below.refl w3.heap.size w3).alloc (Nat.le_refl _) (.cells [.int .i64 x.a, .int .i64 x.b].toArray 39)
      have hu1 := hu.step hN; have hv1 := hv.step hN; have ht1 := ht.step hN
      have hB1 := hW.alloc hW.size (.cells [.int .i64 x.a, .int .i64 x.b].toArray 39)
      have hX : SlC (w3.alloc (.cells [.int .i64 x.a, .int .i64 x.b].toArray 39)) (some ⟨w3.heap.size, 0, none⟩) 1 1 [x] := one_sl (Box.new rfl)
      clear hS c d hN HX HY hx1
      go_wp2_with (at_builtin; refine wpL_allK (by kernel_rfl) (.tmp 58) (.tmp 63) (by rfl) (by rfl) hv1 (by rfl) hX hl2 (by omega) hB1.size ?_; intro v8 w8 hv8 hB8 hk8)
      have hu8 := (hk8 _ _ hu1 auv)
      have ht8 := (hk8 _ _ ht1 avt.symm)
      have hW8 := hB8 _ hB1
      rw [← hot.out.1] at hv8
      exact ⟨⟨i + 1, k + 1, by simp, by simp, by omega, by omega, hS2.out, by rw [hon.out.2]; exact hu8.1, hv8, by rw [hot.out.2]; exact ht8.1, hu8.2, aut, ht8.2.symm, hW8⟩, by simp [intOf]; omega⟩
theorem checkS_3 (l : List Pr) : checkS l = 3 ↔ 65536 < l.length := by
  by_cases c : 65536 < l.length
  · have h : fineS l = 3 := if_pos c
    unfold checkS; rw [h]; simp [c]
  · have h : fineS l = 0 ∨ fineS l = 2 := by
      unfold fineS; rw [if_neg c]; split
      · exact .inl rfl
      · exact .inr rfl
    have : checkS l ≠ 3 := by
      unfold checkS
      rcases h with h | h
      · rw [h, if_pos rfl]; split <;> decide
      · rw [h, if_neg (by decide)]; decide
    exact ⟨fun e => absurd e this, fun e => absurd e c⟩
set_option maxRecDepth 100000 in
set_option maxHeartbeats 4000000 in
theorem diffC {A B : Option Addr} {n m : Nat} (c1 c2 : Nat) {old now : List Pr} (w : World) (h : SlD w A n c1 old) (ho : SlD w B m c2 now) :
    Ret3 14 #[.slice A n c1, .slice B m c2] w (if diffE old now = 0 then onl now old false else []) (if diffE old now = 0 then onl old now true else []) (if diffE old now = 0 then onl old now false else []) (diffE old now) := by
  by_cases k : checkS old = 0 ∧ checkS now = 0
  · have l1 := checkS_len k.1; have l2 := checkS_len k.2
    have hE : diffE old now = 0 := by unfold diffE; rw [if_neg (by omega), if_pos k]
    rw [hE]
    exact diffOk w h ho k.1 k.2
  have HC1 := Lib.hid fun w1 (hS : Below w.heap.size w w1) => checkC c1 w1 (h.1.step hS)
  have HC2 := Lib.hid fun w1 (hS : Below w.heap.size w w1) => checkC c2 w1 (ho.1.step hS)
  have h3 := checkS_3 old; have h4 := checkS_3 now
  by_cases b : 65536 < old.length ∨ 65536 < now.length
  · rw [show diffE old now = 3 from if_pos b]
    simp only [show ¬ ((3 : Int) = 0) by decide, if_false]
    have key : (checkS old == 3) = true ∨ (checkS old == 3) = false ∧ (checkS now == 3) = true := by
      simp only [beq_iff_eq, beq_eq_false_iff_ne, ne_eq]; omega
    clear k h3 h4 b h ho
    unfold Ret3
    generalize checkS old = x at *
    generalize checkS now = y at *
    go_enter Try.func14, Try.ntmps14
    go_wp2_with fail
    go_step3
    go_wp2_with fail
    refine (HC1.out w (Below.refl _ _)).mono ?_
    rintro e w1 ⟨rfl, hW⟩
    go_wp2_with fail
    refine (HC2.out w1 hW).mono ?_
    rintro e w2 ⟨rfl, hS⟩
    have hW := hW.trans (hS.mono hW.size)
    rcases key with e1 | ⟨e1, e2⟩
    · go_wp2
      try simp only [Exit.noGoto]
      exact bodyPost_ret (v := .tuple #[(.slice none 0 0), (.slice none 0 0), (.slice none 0 0), .int .i64 3]) (by simp [results, Try.results14, go_sem]) rfl ⟨(.slice none 0 0), (.slice none 0 0), (.slice none 0 0), rfl, OwnS.nil _ _, OwnS.nil _ _, OwnS.nil _ _, hW⟩
    · go_wp2
      try simp only [Exit.noGoto]
      exact bodyPost_ret (v := .tuple #[(.slice none 0 0), (.slice none 0 0), (.slice none 0 0), .int .i64 3]) (by simp [results, Try.results14, go_sem]) rfl ⟨(.slice none 0 0), (.slice none 0 0), (.slice none 0 0), rfl, OwnS.nil _ _, OwnS.nil _ _, OwnS.nil _ _, hW⟩
  · rw [show diffE old now = 2 by unfold diffE; rw [if_neg b, if_neg k]]
    simp only [show ¬ ((2 : Int) = 0) by decide, if_false]
    have e1 : (checkS old == 3) = false := by simp only [beq_eq_false_iff_ne, ne_eq]; omega
    have e2 : (checkS now == 3) = false := by simp only [beq_eq_false_iff_ne, ne_eq]; omega
    have key : (checkS old != 0) = true ∨ (checkS old != 0) = false ∧ (checkS now != 0) = true := by
      simp only [bne_iff_ne, bne_eq_false_iff_eq, ne_eq]; omega
    clear k h3 h4 b h ho
    unfold Ret3
    generalize checkS old = x at *
    generalize checkS now = y at *
    go_enter Try.func14, Try.ntmps14
    go_wp2_with fail
    go_step3
    go_wp2_with fail
    refine (HC1.out w (Below.refl _ _)).mono ?_
    rintro e w1 ⟨rfl, hW⟩
    go_wp2_with fail
    refine (HC2.out w1 hW).mono ?_
    rintro e w2 ⟨rfl, hS⟩
    have hW := hW.trans (hS.mono hW.size)
    rcases key with e3 | ⟨e3, e4⟩
    · go_wp2
      try simp only [Exit.noGoto]
      exact bodyPost_ret (v := .tuple #[(.slice none 0 0), (.slice none 0 0), (.slice none 0 0), .int .i64 2]) (by simp [results, Try.results14, go_sem]) rfl ⟨(.slice none 0 0), (.slice none 0 0), (.slice none 0 0), rfl, OwnS.nil _ _, OwnS.nil _ _, OwnS.nil _ _, hW⟩
    · go_wp2
      try simp only [Exit.noGoto]
      exact bodyPost_ret (v := .tuple #[(.slice none 0 0), (.slice none 0 0), (.slice none 0 0), .int .i64 2]) (by simp [results, Try.results14, go_sem]) rfl ⟨(.slice none 0 0), (.slice none 0 0), (.slice none 0 0), rfl, OwnS.nil _ _, OwnS.nil _ _, OwnS.nil _ _, hW⟩
end QDg
end Go.Proofs.Ytocelepohkbooaa
