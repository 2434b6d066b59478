/- What the functions of bounds answer: their walks, sixth part: the bound of points. No condition. -/
import Derived.Test.YtbcjnckejkjfeaaBnd5
import Derived.Test.YtbcjnckejkjfeaaMem
namespace Go.Proofs.Ytbcjnckejkjfeaa
set_option linter.unusedVariables false
set_option linter.unusedSimpArgs false
open Go.RowKit Go.NP
theorem cf24 (args : Array Value) (w1 : World) : (callFunc 24 args).run Try.prog w1 = .ok (.enter 24 args) w1 := enters Try.func24 (by kernel_rfl) (by kernel_rfl) args w1
/-- A row of points. -/
def PAt (w : World) (b off : Nat) (l : List Pt) : Prop := ∀ k p, l[k]? = some p → w.cell? ⟨b, off + k * 3, none⟩ = some (.int .i64 p.x) ∧ w.cell? ⟨b, off + k * 3 + 1, none⟩ = some (.int .i64 p.y) ∧ w.cell? ⟨b, off + k * 3 + 2, none⟩ = some (.int .i64 p.z)
theorem PAt.below {W w1 : World} {b off : Nat} {l : List Pt} (h : PAt W b off l) (hb : b < W.heap.size) (hS : Below W.heap.size W w1) : PAt w1 b off l := fun k p hk => by
  obtain ⟨h1, h2, h3⟩ := h k p hk
  rw [(bcell hS).1 b _ hb, (bcell hS).1 b _ hb, (bcell hS).1 b _ hb]; exact ⟨h1, h2, h3⟩
set_option maxHeartbeats 2000000 in
theorem ofC (p : Pt) (l : List Pt) (r : Int) (b off cap : Nat) (w : World) (hb : b < w.heap.size) (hP : PAt w b off (p :: l)) (hn : l.length < 1000000) (h0 : 0 ≤ r) (h1 : r ≤ 268435456) :
    RetB Try.prog 24 #[.slice (some ⟨b, off, none⟩) ((p :: l).length) cap, .int .i64 r] w
      (.tuple #[.agg #[.int .i64 (ofS (p :: l) r).1.lo.x, .int .i64 (ofS (p :: l) r).1.lo.y, .int .i64 (ofS (p :: l) r).1.lo.z, .int .i64 (ofS (p :: l) r).1.hi.x, .int .i64 (ofS (p :: l) r).1.hi.y, .int .i64 (ofS (p :: l) r).1.hi.z], .int .i64 (ofS (p :: l) r).2]) := by
  have e0 : ((((p :: l).length : Nat) : Int) == 0) = false := by simp; omega
  have t1 : decide (r < 0) = false := decide_eq_false (by omega)
  have t2 : decide (268435456 < r) = false := decide_eq_false (by omega)
  obtain ⟨p1, p2, p3⟩ := hP 0 p rfl
  simp only [Nat.zero_mul, Nat.add_zero] at p1 p2 p3
  have HP := Lib.hid hP; clear hP
  generalize hL : (p :: l).length = n at *
  have hn0 : 0 < n := by subst hL; simp
  have hn1 : n ≤ 1000000 := by subst hL; simp; omega
  have HL := Lib.hid hL; clear hL
  unfold RetB
  go_enter Try.func24, Try.ntmps24
  have hz : b < w.heap.size + 1 := by omega
  have i1 : (0 : Int) < (n : Int) := by omega
  go_wp2
  refine wp_region_ph [(8, .free [7])] (by kernel_rfl) (by kernel_rfl) ?_
  refine Ph.maded [(7, [.int .i64 0, .int .i64 0, .int .i64 0, .int .i64 0, .int .i64 0, .int .i64 0], 35)] (by rfl) ?_
  simp only [List.drop_succ_cons, List.drop_zero, List.take_succ_cons, List.take_zero, Nat.reduceSub, Nat.sub_zero]
  iterate 7 (refine SeqO.val (v := ?_) (by rfl) (by rfl) (fun w1 hS => ?_) ?_; rotate_left; (· obtain ⟨hc, hcf⟩ := bcell hS; go_simp; try with_reducible rfl); simp only [Act.put, List.setIfInBounds_toArray, List.set_cons_zero, List.set_cons_succ])
  refine SeqO.alloc (cs := [.int .i64 0, .int .i64 0, .int .i64 0, .int .i64 0, .int .i64 0, .int .i64 0]) (Ty := 35) (by rfl) ⟨35, by simp⟩ (by rfl) (by simp) (by rfl) (fun w => by go_simp) ?_
  refine SeqO.nil fun L u w1 hL hA => ?_
  obtain ⟨g, hg, hge, hbx⟩ := hA.made _ (List.mem_cons_self) (hL 7 (by omega))
  have hS := hA.below
  clear hA hL
  simp only [List.nil_append, List.foldl_cons, List.foldl_nil, hg]
  refine Ph.last ?_
  simp only [List.drop_succ_cons, List.drop_zero, List.take_succ_cons, List.take_zero, Nat.reduceSub, Nat.sub_zero]
  obtain ⟨hc, hcf⟩ := bcell hS
  have hB : Box w1 g [.int .i64 0, .int .i64 0, .int .i64 0, .int .i64 0, .int .i64 0, .int .i64 0] 35 := hbx
  clear hbx
  have q0 := hB.cell 0
  have q1 := hB.cell 1
  have q2 := hB.cell 2
  have q3 := hB.cell 3
  have q4 := hB.cell 4
  have q5 := hB.cell 5
  have hfr := hB.free
  simp only [List.getElem?_cons_zero, List.getElem?_cons_succ] at q0 q1 q2 q3 q4 q5
  have hW1 : Below w.heap.size w w1 := ((Below.refl _ _).alloc (Nat.le_refl _) _).trans (hS.mono (by simp))
  simp at hge
  have hBz : Box w1 w.heap.size [.int .i64 0, .int .i64 0, .int .i64 0, .int .i64 0, .int .i64 0, .int .i64 0] 35 := (Box.new rfl).below hS (by simp)
  go_wp2
  clear q0 q1 q2 q3 q4 q5 hfr
  go_loopw [30] (fun i wr => ∃ k : Nat, k ≤ n ∧ i = .int .i64 k ∧ Box wr g [.int .i64 (hull ((p :: l).take k) ⟨p, p⟩).lo.x, .int .i64 (hull ((p :: l).take k) ⟨p, p⟩).lo.y, .int .i64 (hull ((p :: l).take k) ⟨p, p⟩).lo.z, .int .i64 (hull ((p :: l).take k) ⟨p, p⟩).hi.x, .int .i64 (hull ((p :: l).take k) ⟨p, p⟩).hi.y, .int .i64 (hull ((p :: l).take k) ⟨p, p⟩).hi.z] 35 ∧ Box wr w.heap.size [.int .i64 0, .int .i64 0, .int .i64 0, .int .i64 0, .int .i64 0, .int .i64 0] 35 ∧ Below w.heap.size w wr ∧ ∀ q ∈ (p :: l).take k, q.ok) (fun i _ => n - (intOf i).toNat)
  case atStart =>
    refine ⟨0, Nat.zero_le _, rfl, ?_, ?_, ?_, fun q hq => by cases hq⟩
    · exact ((((((hB.set 0 _).set 1 _).set 2 _).set 3 _).set 4 _).set 5 _)
    · exact ((((((hBz.other (by simp; omega) _).other (by simp; omega) _).other (by simp; omega) _).other (by simp; omega) _).other (by simp; omega) _).other (by simp; omega) _)
    · exact ((((((hW1).setCell (by first | omega | (simp; done) | (simp; omega)) _).setCell (by first | omega | (simp; done) | (simp; omega)) _).setCell (by first | omega | (simp; done) | (simp; omega)) _).setCell (by first | omega | (simp; done) | (simp; omega)) _).setCell (by first | omega | (simp; done) | (simp; omega)) _).setCell (by first | omega | (simp; done) | (simp; omega)) _
  case round =>
    rename_i wr
    obtain ⟨k, hk, rfl, hG, hZ, hW, hall⟩ := hrel
    have hgw : w.heap.size < g := by omega
    have hgz := hG.lt
    have hbw : b < wr.heap.size := by have := hW.size; omega
    by_cases hlt : k < n
    · have hkl : k < (p :: l).length := by rw [HL.out]; exact hlt
      obtain ⟨q, hq⟩ : ∃ q, (p :: l)[k]? = some q := ⟨_, List.getElem?_eq_getElem hkl⟩
      obtain ⟨c0, c1, c2⟩ := (HP.out.below hb hW) k q hq
      have hsn : (p :: l).take (k + 1) = (p :: l).take k ++ [q] := by
        rw [List.take_succ_eq_append_getElem hkl]
        rw [List.getElem?_eq_getElem hkl] at hq; cases hq; rfl
      have HH := Lib.hid (show hull ((p :: l).take (k + 1)) ⟨p, p⟩ = ⟨pmin (hull ((p :: l).take k) ⟨p, p⟩).lo q, pmax (hull ((p :: l).take k) ⟨p, p⟩).hi q⟩ by rw [hsn, hull_snoc])
      have HA := Lib.hid (show (∀ x ∈ (p :: l).take k, x.ok) from hall)
      have HQ := Lib.hid hq
      have HSN := Lib.hid hsn
      clear hq hall hsn
      generalize hull ((p :: l).take k) ⟨p, p⟩ = h at *
      have g0 := (hG).cell 0; have g1 := (hG).cell 1; have g2 := (hG).cell 2; have g3 := (hG).cell 3; have g4 := (hG).cell 4; have g5 := (hG).cell 5; have gf := (hG).free
      simp only [List.getElem?_cons_zero, List.getElem?_cons_succ] at g0 g1 g2 g3 g4 g5
      have z0 := (hZ).cell 0; have z1 := (hZ).cell 1; have z2 := (hZ).cell 2; have z3 := (hZ).cell 3; have z4 := (hZ).cell 4; have z5 := (hZ).cell 5; have zf := (hZ).free
      simp only [List.getElem?_cons_zero, List.getElem?_cons_succ] at z0 z1 z2 z3 z4 z5
      have HG := Lib.hid hG; have HZ := Lib.hid hZ
      clear hG hZ
      have hWr := hW
      clear hW
      have hwz : w.heap.size ≤ wr.heap.size := hWr.size
      by_cases hqo : q.ok
      · go_wp2_with fail
        refine (gcheck_ok q _ hqo).mono ?_
        rintro e w2 ⟨rfl, hS2⟩
        have hW2 : Below w.heap.size w w2 := (hWr.alloc (by omega) _).trans (hS2.mono (by simp; omega))
        clear g0 g1 g2 g3 g4 g5 gf
        clear z0 z1 z2 z3 z4 z5 zf
        clear c0 c1 c2
        have hG2 := (HG.out.alloc _).step hS2
        have hZ2 := (HZ.out.alloc _).step hS2
        have hQ2 : Box w2 wr.heap.size _ _ := (Box.new (w := wr) rfl).step hS2
        have g0 := (hG2).cell 0; have g1 := (hG2).cell 1; have g2 := (hG2).cell 2; have g3 := (hG2).cell 3; have g4 := (hG2).cell 4; have g5 := (hG2).cell 5; have gf := (hG2).free
        simp only [List.getElem?_cons_zero, List.getElem?_cons_succ] at g0 g1 g2 g3 g4 g5
        have z0 := (hZ2).cell 0; have z1 := (hZ2).cell 1; have z2 := (hZ2).cell 2; have z3 := (hZ2).cell 3; have z4 := (hZ2).cell 4; have z5 := (hZ2).cell 5; have zf := (hZ2).free
        simp only [List.getElem?_cons_zero, List.getElem?_cons_succ] at z0 z1 z2 z3 z4 z5
        have y0 := (hQ2).cell 0; have y1 := (hQ2).cell 1; have y2 := (hQ2).cell 2; have yf := (hQ2).free
        simp only [List.getElem?_cons_zero, List.getElem?_cons_succ] at y0 y1 y2
        have HG2 := Lib.hid hG2; have HZ2 := Lib.hid hZ2
        clear hG2 hZ2
        have j1 : g < w2.heap.size := HG2.out.lt
        have j2 : wr.heap.size < w2.heap.size := hQ2.lt
        have j3 : w.heap.size < w2.heap.size := HZ2.out.lt
        clear hQ2
        go_wp2
        refine wp_region_ph [(9, .free [])] (by kernel_rfl) (by kernel_rfl) ?_
        refine Ph.belowd ?_
        simp only [List.drop_succ_cons, List.drop_zero, List.take_succ_cons, List.take_zero, Nat.reduceSub, Nat.sub_zero]
        iterate 3 (refine SeqO.val (v := ?_) (by rfl) (by rfl) (fun w1 hS => ?_) ?_; rotate_left; (· obtain ⟨hc, hcf⟩ := bcell hS; go_simp; try with_reducible rfl); simp only [Act.put, List.setIfInBounds_toArray, List.set_cons_zero, List.set_cons_succ])
        refine SeqO.callv (by rfl) (by rfl) (by rfl) cf31 (by simp [Act.eval]) (fun w1 hS => least h.lo q w1) ?_
        simp only [Act.put, List.setIfInBounds_toArray, List.set_cons_zero, List.set_cons_succ]
        iterate 3 (refine SeqO.val (v := ?_) (by rfl) (by rfl) (fun w1 hS => ?_) ?_; rotate_left; (· obtain ⟨hc, hcf⟩ := bcell hS; go_simp; try with_reducible rfl); simp only [Act.put, List.setIfInBounds_toArray, List.set_cons_zero, List.set_cons_succ])
        refine SeqO.callv (by rfl) (by rfl) (by rfl) cf33 (by simp [Act.eval]) (fun w1 hS => most h.hi q w1) ?_
        simp only [Act.put, List.setIfInBounds_toArray, List.set_cons_zero, List.set_cons_succ]
        iterate 1 (refine SeqO.val (v := ?_) (by rfl) (by rfl) (fun w1 hS => ?_) ?_; rotate_left; (· obtain ⟨hc, hcf⟩ := bcell hS; go_simp; try with_reducible rfl); simp only [Act.put, List.setIfInBounds_toArray, List.set_cons_zero, List.set_cons_succ])
        refine SeqO.nil0 fun w3 hS3 => ?_
        refine Ph.last ?_
        simp only [List.drop_succ_cons, List.drop_zero, List.take_succ_cons, List.take_zero, Nat.reduceSub, Nat.sub_zero]
        clear g0 g1 g2 g3 g4 g5 gf
        clear z0 z1 z2 z3 z4 z5 zf
        clear y0 y1 y2 yf
        have hG3 := HG2.out.step hS3
        have hZ3 := HZ2.out.step hS3
        have hW3 : Below w.heap.size w w3 := hW2.trans (hS3.mono (by omega))
        have g0 := (hG3).cell 0; have g1 := (hG3).cell 1; have g2 := (hG3).cell 2; have g3 := (hG3).cell 3; have g4 := (hG3).cell 4; have g5 := (hG3).cell 5; have gf := (hG3).free
        simp only [List.getElem?_cons_zero, List.getElem?_cons_succ] at g0 g1 g2 g3 g4 g5
        have HG3 := Lib.hid hG3; have HZ3 := Lib.hid hZ3
        clear hG3 hZ3
        go_wp2
        go_roundw
        case rel =>
          refine ⟨k + 1, by omega, by go_num, ?_, ?_, ?_, ?_⟩
          · rw [HH.out]
            exact ((((((HG3.out.set 0 _).set 1 _).set 2 _).set 3 _).set 4 _).set 5 _)
          · exact ((((((HZ3.out.other (by simp; omega) _).other (by simp; omega) _).other (by simp; omega) _).other (by simp; omega) _).other (by simp; omega) _).other (by simp; omega) _)
          · exact ((((((hW3).setCell (by first | omega | (simp; done) | (simp; omega)) _).setCell (by first | omega | (simp; done) | (simp; omega)) _).setCell (by first | omega | (simp; done) | (simp; omega)) _).setCell (by first | omega | (simp; done) | (simp; omega)) _).setCell (by first | omega | (simp; done) | (simp; omega)) _).setCell (by first | omega | (simp; done) | (simp; omega)) _
          · intro x hx
            rw [HSN.out] at hx
            rcases List.mem_append.1 hx with hx | hx
            · exact HA.out x hx
            · simp at hx; subst hx; exact hqo
        case measure => simp [intOf]; omega
      · go_wp2_with fail
        refine (gcheck_no q _ hqo).mono ?_
        rintro e w2 ⟨rfl, hS2⟩
        have hW2 : Below w.heap.size w w2 := (hWr.alloc (by omega) _).trans (hS2.mono (by simp; omega))
        have eF := Lib.hid (show ofS (p :: l) r = (⟨⟨0, 0, 0⟩, ⟨0, 0, 0⟩⟩, 7) from if_neg fun hh => hqo (hh.2.2 q (List.mem_of_getElem? HQ.out)))
        clear g0 g1 g2 g3 g4 g5 gf
        clear z0 z1 z2 z3 z4 z5 zf
        have hZ2 := (HZ.out.alloc _).step hS2
        have z0 := (hZ2).cell 0; have z1 := (hZ2).cell 1; have z2 := (hZ2).cell 2; have z3 := (hZ2).cell 3; have z4 := (hZ2).cell 4; have z5 := (hZ2).cell 5; have zf := (hZ2).free
        simp only [List.getElem?_cons_zero, List.getElem?_cons_succ] at z0 z1 z2 z3 z4 z5
        go_wp2
        rw [eF.out]
        exact bodyPost_ret (v := .tuple #[.agg #[.int .i64 (⟨⟨0, 0, 0⟩, ⟨0, 0, 0⟩⟩ : Bd).lo.x, .int .i64 (⟨⟨0, 0, 0⟩, ⟨0, 0, 0⟩⟩ : Bd).lo.y, .int .i64 (⟨⟨0, 0, 0⟩, ⟨0, 0, 0⟩⟩ : Bd).lo.z, .int .i64 (⟨⟨0, 0, 0⟩, ⟨0, 0, 0⟩⟩ : Bd).hi.x, .int .i64 (⟨⟨0, 0, 0⟩, ⟨0, 0, 0⟩⟩ : Bd).hi.y, .int .i64 (⟨⟨0, 0, 0⟩, ⟨0, 0, 0⟩⟩ : Bd).hi.z], .int .i64 7]) (by simp [results, Try.results24, go_sem, *]) rfl ⟨rfl, ((((((hW2).setCell (by first | omega | (simp; done) | (simp; omega)) _).setCell (by first | omega | (simp; done) | (simp; omega)) _).setCell (by first | omega | (simp; done) | (simp; omega)) _).setCell (by first | omega | (simp; done) | (simp; omega)) _).setCell (by first | omega | (simp; done) | (simp; omega)) _).setCell (by first | omega | (simp; done) | (simp; omega)) _⟩
    · obtain rfl : k = n := by omega
      have htk : (p :: l).take k = p :: l := List.take_of_length_le (by rw [HL.out]; exact Nat.le_refl _)
      rw [htk] at hG hall
      have eF := Lib.hid (show ofS (p :: l) r = (grow (hull (p :: l) ⟨p, p⟩) r, 0) from if_pos ⟨h0, h1, hall⟩)
      clear htk hall
      generalize hull (p :: l) ⟨p, p⟩ = h at *
      have g0 := (hG).cell 0; have g1 := (hG).cell 1; have g2 := (hG).cell 2; have g3 := (hG).cell 3; have g4 := (hG).cell 4; have g5 := (hG).cell 5; have gf := (hG).free
      simp only [List.getElem?_cons_zero, List.getElem?_cons_succ] at g0 g1 g2 g3 g4 g5
      have z0 := (hZ).cell 0; have z1 := (hZ).cell 1; have z2 := (hZ).cell 2; have z3 := (hZ).cell 3; have z4 := (hZ).cell 4; have z5 := (hZ).cell 5; have zf := (hZ).free
      simp only [List.getElem?_cons_zero, List.getElem?_cons_succ] at z0 z1 z2 z3 z4 z5
      have hZ' := Lib.hid hZ
      clear hG hZ
      go_wp2_with fail
      refine (growC h r _).mono ?_
      rintro e w2 ⟨rfl, hS2⟩
      clear g0 g1 g2 g3 g4 g5 gf
      clear z0 z1 z2 z3 z4 z5 zf
      have hZ2 := hZ'.out.step hS2
      have z0 := (hZ2).cell 0; have z1 := (hZ2).cell 1; have z2 := (hZ2).cell 2; have z3 := (hZ2).cell 3; have z4 := (hZ2).cell 4; have z5 := (hZ2).cell 5; have zf := (hZ2).free
      simp only [List.getElem?_cons_zero, List.getElem?_cons_succ] at z0 z1 z2 z3 z4 z5
      have hwz : w.heap.size ≤ wr.heap.size := hW.size
      go_wp2
      rw [eF.out]
      exact bodyPost_ret (v := .tuple #[.agg #[.int .i64 (grow h r).lo.x, .int .i64 (grow h r).lo.y, .int .i64 (grow h r).lo.z, .int .i64 (grow h r).hi.x, .int .i64 (grow h r).hi.y, .int .i64 (grow h r).hi.z], .int .i64 0]) (by simp [results, Try.results24, go_sem, *]) rfl ⟨rfl, ((((((hW.trans (hS2.mono (by first | omega | (simp; done) | (simp; omega)))).setCell (by first | omega | (simp; done) | (simp; omega)) _).setCell (by first | omega | (simp; done) | (simp; omega)) _).setCell (by first | omega | (simp; done) | (simp; omega)) _).setCell (by first | omega | (simp; done) | (simp; omega)) _).setCell (by first | omega | (simp; done) | (simp; omega)) _).setCell (by first | omega | (simp; done) | (simp; omega)) _⟩
set_option maxHeartbeats 1000000 in
theorem of_no (A : Option Addr) (n cap : Nat) (r : Int) (w : World) (h : ((n : Int) == 0) = true ∨ (((n : Int) == 0) = false ∧ decide (r < 0) = true) ∨ (((n : Int) == 0) = false ∧ decide (r < 0) = false ∧ decide (268435456 < r) = true)) :
    RetB Try.prog 24 #[.slice A n cap, .int .i64 r] w (.tuple #[.agg #[.int .i64 (⟨⟨0, 0, 0⟩, ⟨0, 0, 0⟩⟩ : Bd).lo.x, .int .i64 (⟨⟨0, 0, 0⟩, ⟨0, 0, 0⟩⟩ : Bd).lo.y, .int .i64 (⟨⟨0, 0, 0⟩, ⟨0, 0, 0⟩⟩ : Bd).lo.z, .int .i64 (⟨⟨0, 0, 0⟩, ⟨0, 0, 0⟩⟩ : Bd).hi.x, .int .i64 (⟨⟨0, 0, 0⟩, ⟨0, 0, 0⟩⟩ : Bd).hi.y, .int .i64 (⟨⟨0, 0, 0⟩, ⟨0, 0, 0⟩⟩ : Bd).hi.z], .int .i64 7]) := by
  unfold RetB
  rcases h with h1 | ⟨h1, h2⟩ | ⟨h1, h2, h3⟩
  all_goals
    go_enter Try.func24, Try.ntmps24
    go_wp2
    exact bodyPost_ret (v := .tuple #[.agg #[.int .i64 (⟨⟨0, 0, 0⟩, ⟨0, 0, 0⟩⟩ : Bd).lo.x, .int .i64 (⟨⟨0, 0, 0⟩, ⟨0, 0, 0⟩⟩ : Bd).lo.y, .int .i64 (⟨⟨0, 0, 0⟩, ⟨0, 0, 0⟩⟩ : Bd).lo.z, .int .i64 (⟨⟨0, 0, 0⟩, ⟨0, 0, 0⟩⟩ : Bd).hi.x, .int .i64 (⟨⟨0, 0, 0⟩, ⟨0, 0, 0⟩⟩ : Bd).hi.y, .int .i64 (⟨⟨0, 0, 0⟩, ⟨0, 0, 0⟩⟩ : Bd).hi.z], .int .i64 7]) (by simp [results, Try.results24, go_sem]) rfl ⟨rfl, (Below.refl _ _).alloc (Nat.le_refl _) _⟩
end Go.Proofs.Ytbcjnckejkjfeaa
