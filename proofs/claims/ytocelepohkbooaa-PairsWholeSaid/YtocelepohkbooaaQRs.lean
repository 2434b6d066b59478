/- The document's Sorted: the same answer. No condition. -/
import Derived.Test.YtocelepohkbooaaQSd
import Derived.Test.YtocelepohkbooaaQDg
namespace Go.Proofs.Ytocelepohkbooaa
set_option linter.unusedVariables false
set_option linter.unusedSimpArgs false
open Go.RowKit Go.NP Go.Lib
namespace QRs
open QCk QCl QDf QMp QCn QSo QSd QDg
theorem cfAh (args : Array Value) (w1 : World) : (callFunc 28 args).run Try.prog w1 = .ok (.enter 28 args) w1 := enters Try.func28 (by kernel_rfl) (by kernel_rfl) args w1
theorem take_stp {l : List Pr} {j : Nat} {p : Pr} (h : l[j]? = some p) : (l.take (j + 1)).foldl stp [] = stp ((l.take j).foldl stp []) p := by
  obtain ⟨hj, rfl⟩ := List.getElem?_eq_some_iff.1 h
  rw [List.take_succ_eq_append_getElem hj, List.foldl_append]; rfl
theorem takeWhile_at {q : Pr → Bool} : ∀ (l : List Pr) (k : Nat), (∀ x (r : Pr), x < k → l[x]? = some r → q r = true) → (∀ r, l[k]? = some r → q r = false) → k ≤ l.length → l.take k = l.takeWhile q ∧ l.drop k = l.dropWhile q
  | [], k, _, _, hk => by simp
  | y :: r, 0, _, h2, _ => by have := h2 y rfl; simp [List.takeWhile_cons, List.dropWhile_cons, this]
  | y :: r, k + 1, h1, h2, hk => by
    have hy := h1 0 y (by omega) rfl
    obtain ⟨a, b⟩ := takeWhile_at r k (fun x s hx hs => h1 (x + 1) s (by omega) (by simpa using hs)) (fun s hs => h2 s (by simpa using hs)) (by simpa using hk)
    rw [List.takeWhile_cons, List.dropWhile_cons, hy]
    simp [a, b]
theorem own_sd {w : World} {base : Nat} {v : Value} {l : List Pr} (h : OwnS w base v l) : ∃ A cap, v = .slice A l.length cap ∧ SlD w A l.length cap l ∧ ((A = none ∧ cap = 0 ∧ l = []) ∨ ∃ g, A = some ⟨g, 0, none⟩) := by
  obtain ⟨A, cap, e, hs⟩ := h.sl
  rcases h.2 with ⟨rfl, h0⟩ | ⟨g, cap', cur, rfl, hb, hg, hc, hm, hsz, hx⟩
  · simp only [Value.slice.injEq] at e
    obtain ⟨rfl, _, rfl⟩ := e
    exact ⟨_, _, by rw [h0], ⟨hs, fun _ => rfl, by omega⟩, .inl ⟨rfl, rfl, List.eq_nil_of_length_eq_zero h0⟩⟩
  · simp only [Value.slice.injEq] at e
    obtain ⟨rfl, _, rfl⟩ := e
    exact ⟨_, _, rfl, ⟨hs, fun h => (by cases h), hc⟩, .inr ⟨g, rfl⟩⟩
theorem sd_step {w w' : World} {A : Option Addr} {n cap : Nat} {l : List Pr} (h : SlD w A n cap l) (hS : Below w.heap.size w w') : SlD w' A n cap l := ⟨h.1.step hS, h.2⟩
theorem sd_take {w : World} {A : Option Addr} {n cap k : Nat} {l : List Pr} (h : SlD w A n cap l) (hk : k ≤ n) : SlC w A k cap (l.take k) := by
  obtain ⟨⟨h1, h2⟩, h3, h4⟩ := h
  refine ⟨⟨by rw [List.length_take, h1]; omega, fun hn => ?_⟩, h3⟩
  obtain ⟨b, off, e, hb, hs⟩ := h2 (by omega)
  refine ⟨b, off, e, hb, fun i s hi => hs i s ?_⟩
  have := get_lt hi
  rw [List.length_take] at this
  rwa [List.getElem?_take_of_lt (by omega)] at hi
set_option maxRecDepth 100000 in
set_option maxHeartbeats 4000000 in
theorem rsortedC {A : Option Addr} {n : Nat} (cap : Nat) {l : List Pr} (w : World) (h : SlS w A n l) (hi : n ≤ 100000) : Ret2 10 #[.slice A n cap] w (sortA l) (fineS l) := by
  have hln := h.1
  have H := Lib.hid h
  by_cases hf : fineS l = 0
  · obtain ⟨h1, h2⟩ := fineS_ok hf
    have hA : sortA l = l.foldl stp [] := if_pos hf
    rw [hA]
    have HF := Lib.hid hf
    clear hA h hf
    go_enter Try.func10, Try.ntmps10
    go_wp2_with fail
    refine (rfineC cap w H.out).mono ?_
    rintro e w1 ⟨rfl, hS1⟩
    rw [HF.out]
    have hz0 := hS1.size
    go_wp2_with fail
    go_loopw [5, 6] (fun v i wr => ∃ j : Nat, j ≤ n ∧ i = .int .i64 (j : Int) ∧ OwnS wr w.heap.size v ((l.take j).foldl stp []) ∧ Below w.heap.size w wr) (fun _ i _ => n - (intOf i).toNat)
    case atStart => exact ⟨0, by omega, rfl, OwnS.nil _ _, hS1⟩
    case round =>
      clear hS1
      obtain ⟨j, hj, rfl, hO, hW⟩ := hrel
      obtain ⟨cur, hcur⟩ : ∃ c, (l.take j).foldl stp [] = c := ⟨_, rfl⟩
      obtain ⟨hr1, _, hr3⟩ := fold_sort (l.take j) [] List.Pairwise.nil
      rw [hcur] at hO hr1 hr3
      have hcl : cur.length ≤ j := by rw [List.length_take] at hr3; simp at hr3; omega
      by_cases hlt : j < n
      · obtain ⟨p, hp⟩ : ∃ p, l[j]? = some p := ⟨_, List.getElem?_eq_getElem (by omega)⟩
        obtain ⟨b, off, rfl, hb0, hsA⟩ := H.out.2 (by omega)
        have at1 := hsA.step hb0 hW _ _ hp
        have HX := Lib.hid (take_stp hp)
        rw [hcur] at HX
        obtain ⟨A', c', rfl, hSd, hfm⟩ := own_sd hO
        have hSl := hSd.1
        have hcc := hSd.2.2
        have SL := Lib.hid hSl
        have SD := Lib.hid hSd
        have FM := Lib.hid hfm
        have HR := Lib.hid hr1
        have t1 : decide ((j : Int) < (n : Int)) = true := by simpa using hlt
        have j0 : 0 ≤ (j : Int) ∧ (j : Int) < n := by omega
        have AT := Lib.hid at1
        have hbz : b < wr.heap.size := by have := hW.size; omega
        have z0 := at1 0 _ rfl; have z1 := at1 1 _ rfl
        simp only [Nat.add_zero] at z0
        clear hp at1 hSl hr1 hcur hsA hSd hfm
        go_wp2_with fail
        refine (hasC c' p wr SL.out (by omega)).mono ?_
        rintro e w2 ⟨rfl, hS2⟩
        clear z0 z1
        by_cases hm : p ∈ cur
        · rw [decide_eq_true hm]
          have hst : stp cur p = cur := if_pos hm
          rw [hst] at HX
          clear SL SD HR hm hst
          go_wp2_with fail
          exact ⟨⟨j + 1, by omega, by simp, by rw [HX.out]; exact hO.step hS2, hW.trans (hS2.mono hW.size)⟩, by simp [intOf]; omega⟩
        · rw [decide_eq_false hm]
          have hst : stp cur p = ins cur p := if_neg hm
          rw [hst] at HX
          have SL := Lib.hid (SlS.step SL.out hS2); have SD := Lib.hid (sd_step SD.out hS2)
          have AT := Lib.hid (AT.out.step hbz hS2)
          have hO := hO.step hS2
          have hW2 := hW.trans (hS2.mono hW.size)
          have hbz : b < w2.heap.size := by have := hS2.size; omega
          clear hm hst hS2 hW
          go_wp2_with fail
          go_loopw [7] (fun i wr => ∃ k : Nat, k ≤ cur.length ∧ i = .int .i64 (k : Int) ∧ (∀ x r, x < k → cur[x]? = some r → ltP r p) ∧ Below w2.heap.size w2 wr) (fun i _ => cur.length - (intOf i).toNat)
          case atStart => exact ⟨0, by omega, rfl, fun x _ hx => absurd hx (by omega), Below.refl _ _⟩
          case round =>
            obtain ⟨k, hk, rfl, hlow, hV⟩ := hrel
            have LOW := Lib.hid hlow
            clear hlow
            by_cases hkl : k < cur.length
            · obtain ⟨q, hq⟩ : ∃ q, cur[k]? = some q := ⟨_, List.getElem?_eq_getElem hkl⟩
              obtain ⟨b2, off2, rfl, hb2, hsB⟩ := SL.out.2 (by omega)
              have at2 := Lib.hid (hsB.step hb2 hV _ _ hq)
              have at1 := Lib.hid (AT.out.step hbz hV)
              have O := Lib.hid fun w1 => aheadC q p w1
              have hbz1 := Nat.lt_of_lt_of_le hbz hV.size
              have hbz2 := Nat.lt_of_lt_of_le hb2 hV.size
              have HQ := Lib.hid hq
              have k1 : decide ((k : Int) < (cur.length : Int)) = true := decide_eq_true (by omega)
              have k0 : 0 ≤ (k : Int) ∧ (k : Int) < cur.length := by omega
              clear hsB hq
              iterate 3 go_step
              refine wp_region_ph [(15, .free [])] (by kernel_rfl) (by kernel_rfl) ?_
              refine Ph.belowd ?_
              simp only [List.drop_succ_cons, List.drop_zero, List.take_succ_cons, List.take_zero, Nat.reduceSub, Nat.sub_zero]
              iterate 8 (refine SeqO.val (v := ?_) (by rfl) (by rfl) (fun w1 hS => ?_) ?_; rotate_left; (· obtain ⟨hc, hcf⟩ := bcell hS; go_simp; try with_reducible rfl); simp only [Act.put, List.setIfInBounds_toArray, List.set_cons_zero, List.set_cons_succ])
              refine SeqO.at (l := [.int .i64 q.a, .int .i64 q.b]) (by rfl) (by rfl) hbz2 at2.out Try.underlying39 (by rfl) (by kernel_rfl) (by rfl) (by rfl) ?_
              simp only [Act.put, List.setIfInBounds_toArray, List.set_cons_zero, List.set_cons_succ]
              iterate 3 (refine SeqO.val (v := ?_) (by rfl) (by rfl) (fun w1 hS => ?_) ?_; rotate_left; (· obtain ⟨hc, hcf⟩ := bcell hS; go_simp; try with_reducible rfl); simp only [Act.put, List.setIfInBounds_toArray, List.set_cons_zero, List.set_cons_succ])
              refine SeqO.at (l := [.int .i64 p.a, .int .i64 p.b]) (by rfl) (by rfl) hbz1 at1.out Try.underlying39 (by rfl) (by kernel_rfl) (by rfl) (by rfl) ?_
              simp only [Act.put, List.setIfInBounds_toArray, List.set_cons_zero, List.set_cons_succ]
              refine SeqO.callv (by rfl) (by rfl) (by rfl) cfAh (by simp [Act.eval]) (fun w1 hS => O.out w1) ?_
              simp only [Act.put, List.setIfInBounds_toArray, List.set_cons_zero, List.set_cons_succ]
              iterate 1 (refine SeqO.val (v := ?_) (by rfl) (by rfl) (fun w1 hS => ?_) ?_; rotate_left; (· obtain ⟨hc, hcf⟩ := bcell hS; go_simp; try with_reducible rfl); simp only [Act.put, List.setIfInBounds_toArray, List.set_cons_zero, List.set_cons_succ])
              refine SeqO.nil0 fun w4 hS4 => ?_
              refine Ph.last ?_
              simp only [List.drop_succ_cons, List.drop_zero, List.take_succ_cons, List.take_zero, Nat.reduceSub, Nat.sub_zero]
              have hV := hV.trans (hS4.mono hV.size)
              refine wpList_nil ?_
              by_cases c : ltP q p
              · rw [decide_eq_true c]
                have hl2 : ∀ x r, x < k + 1 → cur[x]? = some r → ltP r p := fun x r hx hr => by
                  rcases Nat.lt_or_ge x k with h | h
                  · exact LOW.out x r h hr
                  · obtain rfl : x = k := by omega
                    have := HQ.out
                    rw [this] at hr; cases hr; exact c
                have L2 := Lib.hid hl2
                clear hl2 at1 at2 O HQ LOW
                go_wp2_with fail
                exact ⟨⟨k + 1, by omega, by simp, L2.out, hV⟩, by simp [intOf]; omega⟩
              · rw [decide_eq_false c]
                have hE := takeWhile_at (q := fun x => decide (ltP x p)) cur k (fun x r hx hr => decide_eq_true (LOW.out x r hx hr)) (fun r hr => by have := HQ.out; rw [this] at hr; cases hr; exact decide_eq_false c) hk
                have HE := Lib.hid hE
                have hck : ¬ c' = k := by omega
                clear hE c at1 at2 O HQ LOW
                have k2 : 0 ≤ (k : Int) ∧ (k : Int) ≤ cur.length ∧ (k : Int) ≤ c' := by omega
                have hO2 := Lib.hid (hO.step hV)
                have SD2 := Lib.hid (sd_step SD.out hV)
                have AT2 := Lib.hid (AT.out.step hbz hV)
                have hbz2 := Nat.lt_of_lt_of_le hbz hV.size
                have hn0 : OwnS (w4.alloc (.cells #[] 39)) w4.heap.size (.slice (some ⟨w4.heap.size, 0, none⟩) 0 0) [] := own_new w4 [] (by simp)
                have S0 := (Below.refl w4.heap.size w4).alloc (Nat.le_refl _) (.cells #[] 39)
                have C1 := sd_take (sd_step SD2.out S0) hk
                have hlen : (cur.take k).length ≤ 100000 := by rw [List.length_take]; omega
                have hlen2 : (cur.take k ++ [p]).length ≤ 100000 := by rw [List.length_append, List.length_take, List.length_singleton]; omega
                go_wp2_with (first | (at_builtin; refine wpL_all (by kernel_rfl) (.tmp 43) (.tmp 46) (by rfl) (by rfl) hn0 (by rfl) C1 (by simp) (by omega) S0.size ?_; intro v5 w5 hO5 hB5; have B5 := hB5 _ S0; have a5 := AT2.out.step hbz2 B5; have y0 := a5 0 _ rfl; have y1 := a5 1 _ rfl; simp only [Nat.add_zero] at y0; have hX : Box (w5.alloc (.cells [.int .i64 p.a, .int .i64 p.b].toArray 39)) w5.heap.size [.int .i64 p.a, .int .i64 p.b] 39 := Box.new rfl; have S1 := (Below.refl w5.heap.size w5).alloc (Nat.le_refl _) (.cells [.int .i64 p.a, .int .i64 p.b].toArray 39); have hO6 := hO5.step S1; have B6 := B5.alloc B5.size (.cells [.int .i64 p.a, .int .i64 p.b].toArray 39)) | (at_builtin; refine wpL_app (t := p) (by kernel_rfl) (.tmp 48) (.tmp 53) (by rfl) (by rfl) hO6 (by rfl) (hX.part 0 2) hlen B6.size ?_; intro v7 w7 hO7 hB7; have B7 := hB7 _ B6; have C3 := SlD.drop (k := k) (sd_step SD2.out B7) hk; (rw [if_neg hck] at C3; simp only [Option.map, add_plain] at C3)) | (at_builtin; refine wpL_all (by kernel_rfl) (.tmp 55) (.tmp 58) (by rfl) (by rfl) hO7 (by rfl) C3 hlen2 (by omega) B7.size ?_; intro v9 w9 hO9 hB9; have B9 := hB9 _ B7))
                rw [HE.out.1, HE.out.2, List.append_assoc] at hO9
                exact ⟨⟨j + 1, by omega, by simp, by rw [HX.out]; exact hO9.mono (Nat.le_trans hW2.size hV.size), hW2.trans ((hV.trans (B9.mono hV.size)).mono hW2.size)⟩, by simp [intOf]; omega⟩
            · obtain rfl : k = cur.length := by omega
              have k1 : decide ((cur.length : Int) < (cur.length : Int)) = false := decide_eq_false (by omega)
              have hE := takeWhile_at (q := fun x => decide (ltP x p)) cur cur.length (fun x r hx hr => decide_eq_true (LOW.out x r hx hr)) (fun r hr => absurd (get_lt hr) hkl) hk
              have HE := Lib.hid hE
              clear hE LOW
              iterate 3 go_step
              refine wp_region_ph [(15, .free [])] (by kernel_rfl) (by kernel_rfl) ?_
              refine Ph.belowd ?_
              simp only [List.drop_succ_cons, List.drop_zero, List.take_succ_cons, List.take_zero, Nat.reduceSub, Nat.sub_zero]
              iterate 5 (refine SeqO.val (v := ?_) (by rfl) (by rfl) (fun w1 hS => ?_) ?_; rotate_left; (· obtain ⟨hc, hcf⟩ := bcell hS; go_simp; try with_reducible rfl); simp only [Act.put, List.setIfInBounds_toArray, List.set_cons_zero, List.set_cons_succ])
              iterate 9 (refine SeqO.skip (by rfl) (by rfl) ?_; simp only [Act.put, List.setIfInBounds_toArray, List.set_cons_zero, List.set_cons_succ])
              iterate 1 (refine SeqO.val (v := ?_) (by rfl) (by rfl) (fun w1 hS => ?_) ?_; rotate_left; (· obtain ⟨hc, hcf⟩ := bcell hS; go_simp; try with_reducible rfl); simp only [Act.put, List.setIfInBounds_toArray, List.set_cons_zero, List.set_cons_succ])
              refine SeqO.nil0 fun w4 hS4 => ?_
              refine Ph.last ?_
              simp only [List.drop_succ_cons, List.drop_zero, List.take_succ_cons, List.take_zero, Nat.reduceSub, Nat.sub_zero]
              have hV := hV.trans (hS4.mono hV.size)
              refine wpList_nil ?_
              rcases FM.out with ⟨rfl, rfl, rfl⟩ | ⟨g, rfl⟩
              · skip
                have hO2 := Lib.hid (hO.step hV)
                have SD2 := Lib.hid (sd_step SD.out hV)
                have AT2 := Lib.hid (AT.out.step hbz hV)
                have hbz2 := Nat.lt_of_lt_of_le hbz hV.size
                have hn0 : OwnS (w4.alloc (.cells #[] 39)) w4.heap.size (.slice (some ⟨w4.heap.size, 0, none⟩) 0 0) [] := own_new w4 [] (by simp)
                have S0 := (Below.refl w4.heap.size w4).alloc (Nat.le_refl _) (.cells #[] 39)
                have C1 := sd_take (k := 0) (sd_step SD2.out S0) (Nat.zero_le _)
                have hlen : (([] : List Pr).take 0).length ≤ 100000 := by rw [List.length_take]; omega
                have hlen2 : (([] : List Pr).take 0 ++ [p]).length ≤ 100000 := by rw [List.length_append, List.length_take, List.length_singleton]; omega
                go_wp2_with (first | (at_builtin; refine wpL_all (by kernel_rfl) (.tmp 43) (.tmp 46) (by rfl) (by rfl) hn0 (by rfl) C1 (by simp) (by omega) S0.size ?_; intro v5 w5 hO5 hB5; have B5 := hB5 _ S0; have a5 := AT2.out.step hbz2 B5; have y0 := a5 0 _ rfl; have y1 := a5 1 _ rfl; simp only [Nat.add_zero] at y0; have hX : Box (w5.alloc (.cells [.int .i64 p.a, .int .i64 p.b].toArray 39)) w5.heap.size [.int .i64 p.a, .int .i64 p.b] 39 := Box.new rfl; have S1 := (Below.refl w5.heap.size w5).alloc (Nat.le_refl _) (.cells [.int .i64 p.a, .int .i64 p.b].toArray 39); have hO6 := hO5.step S1; have B6 := B5.alloc B5.size (.cells [.int .i64 p.a, .int .i64 p.b].toArray 39)) | (at_builtin; refine wpL_app (t := p) (by kernel_rfl) (.tmp 48) (.tmp 53) (by rfl) (by rfl) hO6 (by rfl) (hX.part 0 2) hlen B6.size ?_; intro v7 w7 hO7 hB7; have B7 := hB7 _ B6; have C3 := SlD.drop (k := 0) (sd_step SD2.out B7) (Nat.zero_le _); (rw [if_pos rfl] at C3; simp only [List.length_nil, Nat.sub_self] at C3)) | (at_builtin; refine wpL_all (by kernel_rfl) (.tmp 55) (.tmp 58) (by rfl) (by rfl) hO7 (by rfl) C3 hlen2 (by omega) B7.size ?_; intro v9 w9 hO9 hB9; have B9 := hB9 _ B7))
                have e1 : ([] : List Pr).take 0 = ([] : List Pr).takeWhile _ := HE.out.1
                have e2 : ([] : List Pr).drop 0 = ([] : List Pr).dropWhile _ := HE.out.2
                rw [e1, e2, List.append_assoc] at hO9
                exact ⟨⟨j + 1, by omega, by simp, by rw [HX.out]; exact hO9.mono (Nat.le_trans hW2.size hV.size), hW2.trans ((hV.trans (B9.mono hV.size)).mono hW2.size)⟩, by simp [intOf]; omega⟩
              · by_cases hck : c' = cur.length
                · subst hck
                  have k2 : 0 ≤ (cur.length : Int) ∧ (cur.length : Int) ≤ cur.length := by omega
                  have hO2 := Lib.hid (hO.step hV)
                  have SD2 := Lib.hid (sd_step SD.out hV)
                  have AT2 := Lib.hid (AT.out.step hbz hV)
                  have hbz2 := Nat.lt_of_lt_of_le hbz hV.size
                  have hn0 : OwnS (w4.alloc (.cells #[] 39)) w4.heap.size (.slice (some ⟨w4.heap.size, 0, none⟩) 0 0) [] := own_new w4 [] (by simp)
                  have S0 := (Below.refl w4.heap.size w4).alloc (Nat.le_refl _) (.cells #[] 39)
                  have C1 := sd_take (sd_step SD2.out S0) hk
                  have hlen : (cur.take cur.length).length ≤ 100000 := by rw [List.length_take]; omega
                  have hlen2 : (cur.take cur.length ++ [p]).length ≤ 100000 := by rw [List.length_append, List.length_take, List.length_singleton]; omega
                  go_wp2_with (first | (at_builtin; refine wpL_all (by kernel_rfl) (.tmp 43) (.tmp 46) (by rfl) (by rfl) hn0 (by rfl) C1 (by simp) (by omega) S0.size ?_; intro v5 w5 hO5 hB5; have B5 := hB5 _ S0; have a5 := AT2.out.step hbz2 B5; have y0 := a5 0 _ rfl; have y1 := a5 1 _ rfl; simp only [Nat.add_zero] at y0; have hX : Box (w5.alloc (.cells [.int .i64 p.a, .int .i64 p.b].toArray 39)) w5.heap.size [.int .i64 p.a, .int .i64 p.b] 39 := Box.new rfl; have S1 := (Below.refl w5.heap.size w5).alloc (Nat.le_refl _) (.cells [.int .i64 p.a, .int .i64 p.b].toArray 39); have hO6 := hO5.step S1; have B6 := B5.alloc B5.size (.cells [.int .i64 p.a, .int .i64 p.b].toArray 39)) | (at_builtin; refine wpL_app (t := p) (by kernel_rfl) (.tmp 48) (.tmp 53) (by rfl) (by rfl) hO6 (by rfl) (hX.part 0 2) hlen B6.size ?_; intro v7 w7 hO7 hB7; have B7 := hB7 _ B6; have C3 := SlD.drop (k := cur.length) (sd_step SD2.out B7) hk; (rw [if_pos rfl] at C3; simp only [Nat.sub_self] at C3)) | (at_builtin; refine wpL_all (by kernel_rfl) (.tmp 55) (.tmp 58) (by rfl) (by rfl) hO7 (by rfl) C3 hlen2 (by omega) B7.size ?_; intro v9 w9 hO9 hB9; have B9 := hB9 _ B7))
                  rw [HE.out.1, HE.out.2, List.append_assoc] at hO9
                  exact ⟨⟨j + 1, by omega, by simp, by rw [HX.out]; exact hO9.mono (Nat.le_trans hW2.size hV.size), hW2.trans ((hV.trans (B9.mono hV.size)).mono hW2.size)⟩, by simp [intOf]; omega⟩
                · skip
                  have k2 : 0 ≤ (cur.length : Int) ∧ (cur.length : Int) ≤ cur.length ∧ (cur.length : Int) ≤ c' := by omega
                  have hO2 := Lib.hid (hO.step hV)
                  have SD2 := Lib.hid (sd_step SD.out hV)
                  have AT2 := Lib.hid (AT.out.step hbz hV)
                  have hbz2 := Nat.lt_of_lt_of_le hbz hV.size
                  have hn0 : OwnS (w4.alloc (.cells #[] 39)) w4.heap.size (.slice (some ⟨w4.heap.size, 0, none⟩) 0 0) [] := own_new w4 [] (by simp)
                  have S0 := (Below.refl w4.heap.size w4).alloc (Nat.le_refl _) (.cells #[] 39)
                  have C1 := sd_take (sd_step SD2.out S0) hk
                  have hlen : (cur.take cur.length).length ≤ 100000 := by rw [List.length_take]; omega
                  have hlen2 : (cur.take cur.length ++ [p]).length ≤ 100000 := by rw [List.length_append, List.length_take, List.length_singleton]; omega
                  go_wp2_with (first | (at_builtin; refine wpL_all (by kernel_rfl) (.tmp 43) (.tmp 46) (by rfl) (by rfl) hn0 (by rfl) C1 (by simp) (by omega) S0.size ?_; intro v5 w5 hO5 hB5; have B5 := hB5 _ S0; have a5 := AT2.out.step hbz2 B5; have y0 := a5 0 _ rfl; have y1 := a5 1 _ rfl; simp only [Nat.add_zero] at y0; have hX : Box (w5.alloc (.cells [.int .i64 p.a, .int .i64 p.b].toArray 39)) w5.heap.size [.int .i64 p.a, .int .i64 p.b] 39 := Box.new rfl; have S1 := (Below.refl w5.heap.size w5).alloc (Nat.le_refl _) (.cells [.int .i64 p.a, .int .i64 p.b].toArray 39); have hO6 := hO5.step S1; have B6 := B5.alloc B5.size (.cells [.int .i64 p.a, .int .i64 p.b].toArray 39)) | (at_builtin; refine wpL_app (t := p) (by kernel_rfl) (.tmp 48) (.tmp 53) (by rfl) (by rfl) hO6 (by rfl) (hX.part 0 2) hlen B6.size ?_; intro v7 w7 hO7 hB7; have B7 := hB7 _ B6; have C3 := SlD.drop (k := cur.length) (sd_step SD2.out B7) hk; (rw [if_neg hck] at C3; simp only [Option.map, add_plain, Nat.sub_self, Nat.zero_add] at C3)) | (at_builtin; refine wpL_all (by kernel_rfl) (.tmp 55) (.tmp 58) (by rfl) (by rfl) hO7 (by rfl) C3 hlen2 (by omega) B7.size ?_; intro v9 w9 hO9 hB9; have B9 := hB9 _ B7))
                  rw [HE.out.1, HE.out.2, List.append_assoc] at hO9
                  exact ⟨⟨j + 1, by omega, by simp, by rw [HX.out]; exact hO9.mono (Nat.le_trans hW2.size hV.size), hW2.trans ((hV.trans (B9.mono hV.size)).mono hW2.size)⟩, by simp [intOf]; omega⟩
      · have hj' : l.take j = l := List.take_of_length_le (by omega)
        rw [hj'] at hcur
        subst hcur
        have t1 : decide ((j : Int) < (n : Int)) = false := decide_eq_false (by omega)
        go_wp2_with fail
        exact bodyPost_ret (v := .tuple #[u5, .int .i64 0]) (by simp [results, Try.results10, go_sem]) rfl ⟨u5, by rw [HF.out], hO, hW⟩
  · have hA : sortA l = [] := if_neg hf
    rw [hA]
    have hfb : (fineS l != 0) = true := by simpa using hf
    go_enter Try.func10, Try.ntmps10
    go_wp2_with fail
    refine (rfineC cap w H.out).mono ?_
    rintro e w1 ⟨rfl, hS1⟩
    go_wp2_with fail
    exact bodyPost_ret (v := .tuple #[.slice none 0 0, .int .i64 (fineS l)]) (by simp [results, Try.results10, go_sem]) rfl ⟨_, rfl, OwnS.nil _ _, hS1⟩
end QRs
end Go.Proofs.Ytocelepohkbooaa
