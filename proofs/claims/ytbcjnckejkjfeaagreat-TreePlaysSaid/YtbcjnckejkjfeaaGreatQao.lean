/- A bound put into the document's tree. Condition: the tree is as told. A tree made; how many there are, how high it is: the walks. No condition. -/
import Derived.Test.YtbcjnckejkjfeaaGreatQal
import Derived.Test.YtbcjnckejkjfeaaGreatQan
import Derived.Test.YtbcjnckejkjfeaaGreatQam
namespace Go.Proofs.YtbcjnckejkjfeaaGreat
set_option linter.unusedVariables false
set_option linter.unusedSimpArgs false
open Go.RowKit Go.NP
namespace DPu
open TrW TrC TrA TrX TrE TPu DSl DPl DTr DDr
theorem cf43 (args : Array Value) (w1 : World) : (callFunc 43 args).run Tryz.prog w1 = .ok (.enter 43 args) w1 := enters Tryz.func43 (by kernel_rfl) (by kernel_rfl) args w1
theorem ins_is (L : List En) (q : Int) (e : En) (h : e.n = q) : (L.take (lo L q).length ++ [e]) ++ L.drop (lo L q).length = ins L e := by
  rw [lo_take, hi_drop, List.append_assoc]; unfold ins; rw [h]; rfl
theorem sl_add {w : World} {a : Addr} {n z : Nat} {L : List En} (hn : L.length = n) (h : SlE w (some a) L.length L) : SlE w (some (a.add (z * 13))) (n - z) (L.drop z) :=
  ⟨by rw [List.length_drop, hn], fun h0 => by
    obtain ⟨b, off, h1, h2, h3⟩ := h.2 (by omega)
    cases h1
    have := DTr.SlE.drop z h h2
    rw [hn] at this
    have e : (⟨b, off, none⟩ : Addr).add (z * 13) = ⟨b, off + z * 13, none⟩ := by unfold Addr.add; split <;> simp_all
    rw [e]; exact this.2 h0⟩
set_option maxRecDepth 100000 in
set_option maxHeartbeats 4000000 in
theorem rpuRng {t : Nat} {q : Int} {x : Bd} (w : World) (h : ¬ (1 ≤ q ∧ q ≤ 4096)) : RetB Tryz.prog 18 #[.pointer (some ⟨t, 0, none⟩), .int .i64 q, .agg #[.int .i64 x.lo.x, .int .i64 x.lo.y, .int .i64 x.lo.z, .int .i64 x.hi.x, .int .i64 x.hi.y, .int .i64 x.hi.z]] w (.int .i64 2) := by
  have hb : Below w.heap.size w (w.alloc (.cells #[.int .i64 x.lo.x, .int .i64 x.lo.y, .int .i64 x.lo.z, .int .i64 x.hi.x, .int .i64 x.hi.y, .int .i64 x.hi.z] 38)) := (Below.refl _ _).alloc (Nat.le_refl _) _
  have hX : Box (w.alloc (.cells #[.int .i64 x.lo.x, .int .i64 x.lo.y, .int .i64 x.lo.z, .int .i64 x.hi.x, .int .i64 x.hi.y, .int .i64 x.hi.z] 38)) w.heap.size [.int .i64 x.lo.x, .int .i64 x.lo.y, .int .i64 x.lo.z, .int .i64 x.hi.x, .int .i64 x.hi.y, .int .i64 x.hi.z] 38 := Box.new rfl
  unfold RetB
  by_cases h1 : q < 1
  · have t1 : decide (q < 1) = true := decide_eq_true h1
    clear h h1
    go_enter Tryz.func18, Tryz.ntmps18
    go_wp2_with fail
    exact bodyPost_ret (v := .int .i64 2) (by simp [results, Tryz.results18, go_sem]) rfl ⟨rfl, hb⟩
  · have t1 : decide (q < 1) = false := decide_eq_false h1
    have t2 : decide (4096 < q) = true := decide_eq_true (by omega)
    clear h h1
    go_enter Tryz.func18, Tryz.ntmps18
    go_wp2_with fail
    exact bodyPost_ret (v := .int .i64 2) (by simp [results, Tryz.results18, go_sem]) rfl ⟨rfl, hb⟩
set_option maxRecDepth 100000 in
set_option maxHeartbeats 4000000 in
theorem rpuBad {t : Nat} {q : Int} {x : Bd} (w : World) (h : 1 ≤ q ∧ q ≤ 4096) (hx : ¬ x.ok) : RetB Tryz.prog 18 #[.pointer (some ⟨t, 0, none⟩), .int .i64 q, .agg #[.int .i64 x.lo.x, .int .i64 x.lo.y, .int .i64 x.lo.z, .int .i64 x.hi.x, .int .i64 x.hi.y, .int .i64 x.hi.z]] w (.int .i64 7) := by
  have hb : Below w.heap.size w (w.alloc (.cells #[.int .i64 x.lo.x, .int .i64 x.lo.y, .int .i64 x.lo.z, .int .i64 x.hi.x, .int .i64 x.hi.y, .int .i64 x.hi.z] 38)) := (Below.refl _ _).alloc (Nat.le_refl _) _
  have hX : Box (w.alloc (.cells #[.int .i64 x.lo.x, .int .i64 x.lo.y, .int .i64 x.lo.z, .int .i64 x.hi.x, .int .i64 x.hi.y, .int .i64 x.hi.z] 38)) w.heap.size [.int .i64 x.lo.x, .int .i64 x.lo.y, .int .i64 x.lo.z, .int .i64 x.hi.x, .int .i64 x.hi.y, .int .i64 x.hi.z] 38 := Box.new rfl
  have t1 : decide (q < 1) = false := decide_eq_false (by omega)
  have t2 : decide (4096 < q) = false := decide_eq_false (by omega)
  have HC := Lib.hid (fun u => (rbdC x u).eq (v' := .int .i64 7) (by unfold errIf; rw [if_neg hx]))
  clear h hx
  unfold RetB
  go_enter Tryz.func18, Tryz.ntmps18
  go_wp2_with (refine wpL_load (l := [.int .i64 x.lo.x, .int .i64 x.lo.y, .int .i64 x.lo.z, .int .i64 x.hi.x, .int .i64 x.hi.y, .int .i64 x.hi.z]) (by rfl) (by rfl) hX Tryz.underlying38 (by rfl) (by kernel_rfl) (by kernel_rfl) ?_; (conv => arg 5; simp only [Act.put, List.setIfInBounds_toArray, List.set_cons_zero, List.set_cons_succ]))
  refine (HC.out _).mono ?_
  rintro e w2 ⟨rfl, hb2⟩
  go_wp2_with fail
  exact bodyPost_ret (v := .int .i64 7) (by simp [results, Tryz.results18, go_sem]) rfl ⟨rfl, hb.trans (hb2.mono hb.size)⟩
set_option maxRecDepth 100000 in
set_option maxHeartbeats 4000000 in
theorem rpuIs {t : Nat} {mg q : Int} {x : Bd} {L : List En} (w : World) {P : Nat → Prop} (h : DT w t mg L P) (hP : ∀ k, w.heap.size ≤ k → P k) (hr : Rise L) (hl : L.length ≤ 1000) (hq : 1 ≤ q ∧ q ≤ 4096) (hx : x.ok) (hc : isIn L q = true) : RetB Tryz.prog 18 #[.pointer (some ⟨t, 0, none⟩), .int .i64 q, .agg #[.int .i64 x.lo.x, .int .i64 x.lo.y, .int .i64 x.lo.z, .int .i64 x.hi.x, .int .i64 x.hi.y, .int .i64 x.hi.z]] w (.int .i64 5) := by
  have hb : Below w.heap.size w (w.alloc (.cells #[.int .i64 x.lo.x, .int .i64 x.lo.y, .int .i64 x.lo.z, .int .i64 x.hi.x, .int .i64 x.hi.y, .int .i64 x.hi.z] 38)) := (Below.refl _ _).alloc (Nat.le_refl _) _
  have hX : Box (w.alloc (.cells #[.int .i64 x.lo.x, .int .i64 x.lo.y, .int .i64 x.lo.z, .int .i64 x.hi.x, .int .i64 x.hi.y, .int .i64 x.hi.z] 38)) w.heap.size [.int .i64 x.lo.x, .int .i64 x.lo.y, .int .i64 x.lo.z, .int .i64 x.hi.x, .int .i64 x.hi.y, .int .i64 x.hi.z] 38 := Box.new rfl
  have t1 : decide (q < 1) = false := decide_eq_false (by omega)
  have t2 : decide (4096 < q) = false := decide_eq_false (by omega)
  obtain ⟨A, cap, h, hA⟩ := h
  clear hA hP
  have HC := Lib.hid (fun u => (rbdC x u).eq (v' := .int .i64 0) (by unfold errIf; rw [if_pos hx]))
  have H1 := h.step hb
  have lt0 := H1.bx.lt
  have HR := Lib.hid hr
  have HCC := Lib.hid hc
  clear hx hq h hr hc
  unfold RetB
  go_enter Tryz.func18, Tryz.ntmps18
  go_wp2_with (refine wpL_load (l := [.int .i64 x.lo.x, .int .i64 x.lo.y, .int .i64 x.lo.z, .int .i64 x.hi.x, .int .i64 x.hi.y, .int .i64 x.hi.z]) (by rfl) (by rfl) hX Tryz.underlying38 (by rfl) (by kernel_rfl) (by kernel_rfl) ?_; (conv => arg 5; simp only [Act.put, List.setIfInBounds_toArray, List.set_cons_zero, List.set_cons_succ]))
  refine (HC.out _).mono ?_
  rintro e w2 ⟨rfl, hb2⟩
  have H2 := H1.step hb2
  have hbx2 := H2.bx
  have lt2 := hbx2.lt
  have HP := Lib.hid (placeC cap mg q w2 H2.sl HR.out (by omega))
  rw [HCC.out] at HP
  have HW := Lib.hid (hb.trans (hb2.mono hb.size))
  clear H1 H2 hb hb2 hX lt0
  go_wp2_with (refine wpL_load (l := [.int .i64 mg, .slice A L.length cap]) (by rfl) (by rfl) hbx2 Tryz.underlying30 (by rfl) (by kernel_rfl) (by kernel_rfl) ?_; (conv => arg 5; simp only [Act.put, List.setIfInBounds_toArray, List.set_cons_zero, List.set_cons_succ]))
  refine HP.out.mono ?_
  rintro e w3 ⟨rfl, hb3⟩
  clear hbx2 HP
  go_wp2_with fail
  exact bodyPost_ret (v := .int .i64 5) (by simp [results, Tryz.results18, go_sem]) rfl ⟨rfl, HW.out.trans (hb3.mono HW.out.size)⟩
set_option maxRecDepth 100000 in
set_option maxHeartbeats 4000000 in
theorem rpuC {t n cap z : Nat} {mg q : Int} {x : Bd} {L : List En} {P : Nat → Prop} {a : Addr} (w : World) (h : DT0 w t mg L (some a) cap) (hl : n ≤ 1000) (hq : 1 ≤ q ∧ q ≤ 4096) (hx : x.ok) (hn : L.length = n) (hz : z ≤ n) (hcz : ¬ cap = z) (hP : ∀ u, DT0 u t mg L (some a) cap → RetB Tryz.prog 42 #[.agg #[.int .i64 mg, .slice (some a) n cap], .int .i64 q] u (.tuple #[.int .i64 (z : Int), .bool false])) (hPP : ∀ k, w.heap.size ≤ k → P k) : Calls Tryz.prog 18 #[.pointer (some ⟨t, 0, none⟩), .int .i64 q, .agg #[.int .i64 x.lo.x, .int .i64 x.lo.y, .int .i64 x.lo.z, .int .i64 x.hi.x, .int .i64 x.hi.y, .int .i64 x.hi.z]] w fun e w' => e = .returned (.int .i64 0) ∧ DT w' t mg ((L.take z ++ [⟨q, x, grow x mg⟩]) ++ L.drop z) P ∧ Fr w w' fun k => k = t := by
  have hb : Below w.heap.size w (w.alloc (.cells #[.int .i64 x.lo.x, .int .i64 x.lo.y, .int .i64 x.lo.z, .int .i64 x.hi.x, .int .i64 x.hi.y, .int .i64 x.hi.z] 38)) := (Below.refl _ _).alloc (Nat.le_refl _) _
  have hX : Box (w.alloc (.cells #[.int .i64 x.lo.x, .int .i64 x.lo.y, .int .i64 x.lo.z, .int .i64 x.hi.x, .int .i64 x.hi.y, .int .i64 x.hi.z] 38)) w.heap.size [.int .i64 x.lo.x, .int .i64 x.lo.y, .int .i64 x.lo.z, .int .i64 x.hi.x, .int .i64 x.hi.y, .int .i64 x.hi.z] 38 := Box.new rfl
  have t1 : decide (q < 1) = false := decide_eq_false (by omega)
  have t2 : decide (4096 < q) = false := decide_eq_false (by omega)
  have HC := Lib.hid (fun u => (rbdC x u).eq (v' := .int .i64 0) (by unfold errIf; rw [if_pos hx]))
  have H1 := h.step hb
  have HPL := Lib.hid hP; have HPP := Lib.hid hPP
  clear hPP
  have hlen := h.sl.1
  clear hx hq h hP
  go_enter Tryz.func18, Tryz.ntmps18
  go_wp2_with (refine wpL_load (l := [.int .i64 x.lo.x, .int .i64 x.lo.y, .int .i64 x.lo.z, .int .i64 x.hi.x, .int .i64 x.hi.y, .int .i64 x.hi.z]) (by rfl) (by rfl) hX Tryz.underlying38 (by rfl) (by kernel_rfl) (by kernel_rfl) ?_; (conv => arg 5; simp only [Act.put, List.setIfInBounds_toArray, List.set_cons_zero, List.set_cons_succ]))
  refine (HC.out _).mono ?_
  rintro e w2 ⟨rfl, hb2⟩
  have H2 := H1.step hb2
  have hX2 := hX.step hb2
  have HW2 := Lib.hid (hb.trans (hb2.mono hb.size))
  obtain ⟨g, hgx⟩ : ∃ g, w.heap.size = g := ⟨_, rfl⟩
  rw [hgx] at hX2
  have hbx2 : Box w2 t [.int .i64 mg, .slice (some a) n cap] 30 := hn ▸ H2.bx
  have lt2 := hbx2.lt
  have HP := HPL.out w2 H2
  clear H1 hb hb2 hX HC
  go_wp2_with (refine wpL_load (l := [.int .i64 mg, .slice (some a) n cap]) (by rfl) (by rfl) hbx2 Tryz.underlying30 (by rfl) (by kernel_rfl) (by kernel_rfl) ?_; (conv => arg 5; simp only [Act.put, List.setIfInBounds_toArray, List.set_cons_zero, List.set_cons_succ]))
  refine HP.mono ?_
  rintro e w3 ⟨rfl, hb3⟩
  have H3 := H2.step hb3
  have hX3 := hX2.step hb3
  have hbx3 := hbx2.step hb3
  have HW3 := Lib.hid (HW2.out.trans (hb3.mono HW2.out.size))
  have ct := hbx3.cell 1
  simp only [List.getElem?_cons_zero, List.getElem?_cons_succ] at ct
  have hg3 : t < w3.heap.size := hbx3.lt
  have z0 : 0 ≤ (z : Int) ∧ (z : Int) ≤ (cap : Int) := by have := H3.lc; omega
  have z1 : (z : Int) ≤ (n : Int) := by omega
  clear H2 hX2 hbx2 HP HPL HW2 hb3 lt2
  have hN : Below w3.heap.size w3 (w3.alloc (.cells #[] 79)) := (Below.refl _ _).alloc (Nat.le_refl _) _
  have hO0 : OwnE (w3.alloc (.cells #[] 79)) w3.heap.size (.slice (some ⟨w3.heap.size, 0, none⟩) 0 0) [] := DSl.own_new w3 [] (by simp)
  have hl1 : SlEC (w3.alloc (.cells #[] 79)) (some a) z cap (L.take z) := ⟨DTr.SlE.take (hn ▸ (H3.step hN).sl) hz, fun e => by cases e⟩
  have hz1 : z ≤ 100000 := by omega
  have hm1 : (List.take z L).length ≤ 100000 := by rw [List.length_take]; omega
  have hbN : w3.heap.size ≤ (w3.alloc (.cells #[] 79)).heap.size := hN.size
  have ctN : (w3.alloc (.cells #[] 79)).cell? ⟨t, 1, none⟩ = some (.slice (some a) n cap) := by rw [(bcell hN).1 t 1 hg3]; exact ct
  have hgN : t < (w3.alloc (.cells #[] 79)).heap.size := by omega
  have HN2 := Lib.hid hN
  have HB6 := Lib.hid (fun (u : World) (hu : Below w3.heap.size w3 u) => (show u.cell? ⟨t, 1, none⟩ = some (.slice (some a) n cap) ∧ t < u.heap.size ∧ SlEC u (some (a.add (z * 13))) (n - z) (cap - z) (L.drop z) ∧ w3.heap.size ≤ u.heap.size ∧ Box u t [.int .i64 mg, .slice (some a) n cap] 30 ∧ Box u g [.int .i64 x.lo.x, .int .i64 x.lo.y, .int .i64 x.lo.z, .int .i64 x.hi.x, .int .i64 x.hi.y, .int .i64 x.hi.z] 38 from by
    have hx := (hbx3.step hu)
    have hs := H3.step hu
    exact ⟨hx.cell 1, by have := hu.size; omega, ⟨sl_add hn hs.sl, fun e => by cases e⟩, hu.size, hx, hX3.step hu⟩))
  clear hN ct H3
  go_wp2_with (at_builtin; refine wpE_all (by rfl) (.tmp 28) (.tmp 34) (by rfl) (by rfl) hO0 (by rfl) hl1 (by simp) hz1 hbN ?_; intro v6 w6 hO6 hB6; refine stop_ ?_)
  have hb6 := hB6 w3 HN2.out
  obtain ⟨ct6, hg6, hl6, hs6, hx6, hX6⟩ := HB6.out w6 hb6
  clear ctN hgN hO0 hl1 hbN hB6 hl6 ct6
  rw [List.nil_append] at hO6
  have c06 := hx6.cell 0
  simp only [List.getElem?_cons_zero, List.getElem?_cons_succ] at c06
  have HX6 := Lib.hid hX6; have HO6 := Lib.hid hO6
  clear hX6 hO6 hx6 hbx3 hX3
  unfold Stop
  go_wp2_with fail
  refine wp_region_ph [(1, .pure), (9, .free [])] (by kernel_rfl) (by kernel_rfl) ?_
  refine Ph.pur (v := v6) (by rfl) (by rfl) ?hQ (by rfl) (fun w => by go_simp) ?_
  case hQ => intro c a v w h; exact h
  simp only [Act.put, List.setIfInBounds_toArray, List.set_cons_zero, List.set_cons_succ]
  refine Ph.belowd ?_
  simp only [List.drop_succ_cons, List.drop_zero, List.take_succ_cons, List.take_zero, Nat.reduceSub, Nat.sub_zero]
  iterate 1 (refine SeqO.val (v := ?_) (by rfl) (by rfl) (fun w1 hS => ?_) ?_; rotate_left; (· obtain ⟨hc, hcf⟩ := bcell hS; go_simp; try with_reducible rfl); simp only [Act.put, List.setIfInBounds_toArray, List.set_cons_zero, List.set_cons_succ])
  refine SeqO.row (l := [.int .i64 x.lo.x, .int .i64 x.lo.y, .int .i64 x.lo.z, .int .i64 x.hi.x, .int .i64 x.hi.y, .int .i64 x.hi.z]) (by rfl) (by rfl) HX6.out Tryz.underlying38 (by rfl) (by kernel_rfl) (by rfl) (by rfl) ?_
  simp only [Act.put, List.setIfInBounds_toArray, List.set_cons_zero, List.set_cons_succ]
  refine SeqO.row (l := [.int .i64 x.lo.x, .int .i64 x.lo.y, .int .i64 x.lo.z, .int .i64 x.hi.x, .int .i64 x.hi.y, .int .i64 x.hi.z]) (by rfl) (by rfl) HX6.out Tryz.underlying38 (by rfl) (by kernel_rfl) (by rfl) (by rfl) ?_
  simp only [Act.put, List.setIfInBounds_toArray, List.set_cons_zero, List.set_cons_succ]
  iterate 4 (refine SeqO.val (v := ?_) (by rfl) (by rfl) (fun w1 hS => ?_) ?_; rotate_left; (· obtain ⟨hc, hcf⟩ := bcell hS; go_simp; try with_reducible rfl); simp only [Act.put, List.setIfInBounds_toArray, List.set_cons_zero, List.set_cons_succ])
  refine SeqO.callv (by rfl) (by rfl) (by rfl) cf43 (by simp [Act.eval]) (fun w1 hS => rgrowC x mg w1) ?_
  simp only [Act.put, List.setIfInBounds_toArray, List.set_cons_zero, List.set_cons_succ]
  refine SeqO.nil0 fun w8 hS8 => ?_
  refine Ph.last ?_
  simp only [List.drop_succ_cons, List.drop_zero, List.take_succ_cons, List.take_zero, Nat.reduceSub, Nat.sub_zero]
  obtain ⟨y, hy⟩ : ∃ y, grow x mg = y := ⟨_, rfl⟩
  simp only [hy]
  have hb8 := hb6.trans (hS8.mono hb6.size)
  have hM : Below w8.heap.size w8 (w8.alloc (.cells (env ⟨q, x, y⟩).toArray 79)) := (Below.refl _ _).alloc (Nat.le_refl _) _
  have hO8 : OwnE (w8.alloc (.cells (env ⟨q, x, y⟩).toArray 79)) w3.heap.size v6 (L.take z) := (HO6.out.step hS8).step hM
  have hE8 : At' (w8.alloc (.cells (env ⟨q, x, y⟩).toArray 79)) w8.heap.size 0 (env ⟨q, x, y⟩) := (Box.new (w := w8) (l := env ⟨q, x, y⟩) (T := 79) rfl).part 0 13
  have hb9 := hb8.trans (hM.mono hb8.size)
  have hs9 : w3.heap.size ≤ (w8.alloc (.cells (env ⟨q, x, y⟩).toArray 79)).heap.size := hb9.size
  have HB9 := Lib.hid hb9
  clear hS8 hM hb8 hb9 HO6 HX6 c06 hg6 hs6 hb6
  go_wp2_with (at_builtin; refine wpE_app (t := ⟨q, x, y⟩) (by rfl) (.tmp 36) (.tmp 46) (by rfl) (by rfl) hO8 (by rfl) hE8 hm1 hs9 ?_; intro v9 w9 hO9 hB9; refine stop_ ?_)
  have hb9 := hB9 w3 HB9.out
  obtain ⟨ct9, hg9, hl9, hs9', hx9, _⟩ := HB6.out w9 hb9
  have hm9 : (List.take z L ++ [(⟨q, x, y⟩ : En)]).length ≤ 100000 := by rw [List.length_append, List.length_take, List.length_singleton]; omega
  clear hO8 hE8 hs9 hB9 HB9
  unfold Stop
  go_wp2_with (at_builtin; refine wpE_all (by rfl) (.tmp 49) (.tmp 55) (by rfl) (by rfl) hO9 (by rfl) hl9 hm9 (by omega) hs9' ?_; intro v7 w7 hO7 hB7; refine stop_ ?_)
  have hb7 := hB7 w3 hb9
  obtain ⟨ct7, hg7, _, _, hx7, _⟩ := HB6.out w7 hb7
  have cf7 := hx7.free 1
  clear ct9 hg9 hl9 hs9' hx9
  obtain ⟨A7, c7, n7, e7⟩ : ∃ A c n, v7 = .slice A n c := by obtain ⟨A, c, e, _⟩ := hO7.sl; exact ⟨_, _, _, e⟩
  subst e7
  unfold Stop
  go_wp2_with fail
  subst hy
  have hfr := fun v => (Fr.of_below (S := fun k => k = t) (HW3.out.trans (hb7.mono HW3.out.size))).trans (fr_cell w7 t 1 v) (fun j hj => .inl hj)
  exact bodyPost_ret (v := .int .i64 0) (by simp [results, Tryz.results18, go_sem]) rfl ⟨rfl, own_dt hO7 hx7 hg3 cf7 (fun k hk => HPP.out k (by have := HW3.out.size; omega)), hfr _⟩
set_option maxRecDepth 100000 in
set_option maxHeartbeats 4000000 in
theorem rpuB {t z : Nat} {mg q : Int} {x : Bd} {L : List En} {P : Nat → Prop} {a : Addr} (w : World) (h : DT0 w t mg L (some a) z) (hl : z ≤ 1000) (hq : 1 ≤ q ∧ q ≤ 4096) (hx : x.ok) (hn : L.length = z) (hP : ∀ u, DT0 u t mg L (some a) z → RetB Tryz.prog 42 #[.agg #[.int .i64 mg, .slice (some a) z z], .int .i64 q] u (.tuple #[.int .i64 (z : Int), .bool false])) (hPP : ∀ k, w.heap.size ≤ k → P k) : Calls Tryz.prog 18 #[.pointer (some ⟨t, 0, none⟩), .int .i64 q, .agg #[.int .i64 x.lo.x, .int .i64 x.lo.y, .int .i64 x.lo.z, .int .i64 x.hi.x, .int .i64 x.hi.y, .int .i64 x.hi.z]] w fun e w' => e = .returned (.int .i64 0) ∧ DT w' t mg ((L.take z ++ [⟨q, x, grow x mg⟩]) ++ L.drop z) P ∧ Fr w w' fun k => k = t := by
  have hb : Below w.heap.size w (w.alloc (.cells #[.int .i64 x.lo.x, .int .i64 x.lo.y, .int .i64 x.lo.z, .int .i64 x.hi.x, .int .i64 x.hi.y, .int .i64 x.hi.z] 38)) := (Below.refl _ _).alloc (Nat.le_refl _) _
  have hX : Box (w.alloc (.cells #[.int .i64 x.lo.x, .int .i64 x.lo.y, .int .i64 x.lo.z, .int .i64 x.hi.x, .int .i64 x.hi.y, .int .i64 x.hi.z] 38)) w.heap.size [.int .i64 x.lo.x, .int .i64 x.lo.y, .int .i64 x.lo.z, .int .i64 x.hi.x, .int .i64 x.hi.y, .int .i64 x.hi.z] 38 := Box.new rfl
  have t1 : decide (q < 1) = false := decide_eq_false (by omega)
  have t2 : decide (4096 < q) = false := decide_eq_false (by omega)
  have HC := Lib.hid (fun u => (rbdC x u).eq (v' := .int .i64 0) (by unfold errIf; rw [if_pos hx]))
  have H1 := h.step hb
  have HPL := Lib.hid hP; have HPP := Lib.hid hPP
  clear hPP
  have hlen := h.sl.1
  clear hx hq h hP
  go_enter Tryz.func18, Tryz.ntmps18
  go_wp2_with (refine wpL_load (l := [.int .i64 x.lo.x, .int .i64 x.lo.y, .int .i64 x.lo.z, .int .i64 x.hi.x, .int .i64 x.hi.y, .int .i64 x.hi.z]) (by rfl) (by rfl) hX Tryz.underlying38 (by rfl) (by kernel_rfl) (by kernel_rfl) ?_; (conv => arg 5; simp only [Act.put, List.setIfInBounds_toArray, List.set_cons_zero, List.set_cons_succ]))
  refine (HC.out _).mono ?_
  rintro e w2 ⟨rfl, hb2⟩
  have H2 := H1.step hb2
  have hX2 := hX.step hb2
  have HW2 := Lib.hid (hb.trans (hb2.mono hb.size))
  obtain ⟨g, hgx⟩ : ∃ g, w.heap.size = g := ⟨_, rfl⟩
  rw [hgx] at hX2
  have hbx2 : Box w2 t [.int .i64 mg, .slice (some a) z z] 30 := hn ▸ H2.bx
  have lt2 := hbx2.lt
  have HP := HPL.out w2 H2
  clear H1 hb hb2 hX HC
  go_wp2_with (refine wpL_load (l := [.int .i64 mg, .slice (some a) z z]) (by rfl) (by rfl) hbx2 Tryz.underlying30 (by rfl) (by kernel_rfl) (by kernel_rfl) ?_; (conv => arg 5; simp only [Act.put, List.setIfInBounds_toArray, List.set_cons_zero, List.set_cons_succ]))
  refine HP.mono ?_
  rintro e w3 ⟨rfl, hb3⟩
  have H3 := H2.step hb3
  have hX3 := hX2.step hb3
  have hbx3 := hbx2.step hb3
  have HW3 := Lib.hid (HW2.out.trans (hb3.mono HW2.out.size))
  have ct := hbx3.cell 1
  simp only [List.getElem?_cons_zero, List.getElem?_cons_succ] at ct
  have hg3 : t < w3.heap.size := hbx3.lt
  have z0 : 0 ≤ (z : Int) := by omega
  clear H2 hX2 hbx2 HP HPL HW2 hb3 lt2
  have hN : Below w3.heap.size w3 (w3.alloc (.cells #[] 79)) := (Below.refl _ _).alloc (Nat.le_refl _) _
  have hO0 : OwnE (w3.alloc (.cells #[] 79)) w3.heap.size (.slice (some ⟨w3.heap.size, 0, none⟩) 0 0) [] := DSl.own_new w3 [] (by simp)
  have hl1 : SlEC (w3.alloc (.cells #[] 79)) (some a) z z (L.take z) := ⟨DTr.SlE.take (hn ▸ (H3.step hN).sl) (Nat.le_refl _), fun e => by cases e⟩
  have hz1 : z ≤ 100000 := by omega
  have hm1 : (List.take z L).length ≤ 100000 := by rw [List.length_take]; omega
  have hbN : w3.heap.size ≤ (w3.alloc (.cells #[] 79)).heap.size := hN.size
  have ctN : (w3.alloc (.cells #[] 79)).cell? ⟨t, 1, none⟩ = some (.slice (some a) z z) := by rw [(bcell hN).1 t 1 hg3]; exact ct
  have hgN : t < (w3.alloc (.cells #[] 79)).heap.size := by omega
  have HN2 := Lib.hid hN
  have HB6 := Lib.hid (fun (u : World) (hu : Below w3.heap.size w3 u) => (show u.cell? ⟨t, 1, none⟩ = some (.slice (some a) z z) ∧ t < u.heap.size ∧ SlEC u (some a) 0 0 (L.drop z) ∧ w3.heap.size ≤ u.heap.size ∧ Box u t [.int .i64 mg, .slice (some a) z z] 30 ∧ Box u g [.int .i64 x.lo.x, .int .i64 x.lo.y, .int .i64 x.lo.z, .int .i64 x.hi.x, .int .i64 x.hi.y, .int .i64 x.hi.z] 38 from by
    have hx := (hbx3.step hu)
    have hs := H3.step hu
    exact ⟨hx.cell 1, by have := hu.size; omega, ⟨⟨by rw [List.length_drop]; omega, fun h => absurd h (by omega)⟩, fun e => by cases e⟩, hu.size, hx, hX3.step hu⟩))
  clear hN ct H3
  go_wp2_with (at_builtin; refine wpE_all (by rfl) (.tmp 28) (.tmp 34) (by rfl) (by rfl) hO0 (by rfl) hl1 (by simp) hz1 hbN ?_; intro v6 w6 hO6 hB6; refine stop_ ?_)
  have hb6 := hB6 w3 HN2.out
  obtain ⟨ct6, hg6, hl6, hs6, hx6, hX6⟩ := HB6.out w6 hb6
  clear ctN hgN hO0 hl1 hbN hB6 hl6 ct6
  rw [List.nil_append] at hO6
  have c06 := hx6.cell 0
  simp only [List.getElem?_cons_zero, List.getElem?_cons_succ] at c06
  have HX6 := Lib.hid hX6; have HO6 := Lib.hid hO6
  clear hX6 hO6 hx6 hbx3 hX3
  unfold Stop
  go_wp2_with fail
  refine wp_region_ph [(1, .pure), (9, .free [])] (by kernel_rfl) (by kernel_rfl) ?_
  refine Ph.pur (v := v6) (by rfl) (by rfl) ?hQ (by rfl) (fun w => by go_simp) ?_
  case hQ => intro c a v w h; exact h
  simp only [Act.put, List.setIfInBounds_toArray, List.set_cons_zero, List.set_cons_succ]
  refine Ph.belowd ?_
  simp only [List.drop_succ_cons, List.drop_zero, List.take_succ_cons, List.take_zero, Nat.reduceSub, Nat.sub_zero]
  iterate 1 (refine SeqO.val (v := ?_) (by rfl) (by rfl) (fun w1 hS => ?_) ?_; rotate_left; (· obtain ⟨hc, hcf⟩ := bcell hS; go_simp; try with_reducible rfl); simp only [Act.put, List.setIfInBounds_toArray, List.set_cons_zero, List.set_cons_succ])
  refine SeqO.row (l := [.int .i64 x.lo.x, .int .i64 x.lo.y, .int .i64 x.lo.z, .int .i64 x.hi.x, .int .i64 x.hi.y, .int .i64 x.hi.z]) (by rfl) (by rfl) HX6.out Tryz.underlying38 (by rfl) (by kernel_rfl) (by rfl) (by rfl) ?_
  simp only [Act.put, List.setIfInBounds_toArray, List.set_cons_zero, List.set_cons_succ]
  refine SeqO.row (l := [.int .i64 x.lo.x, .int .i64 x.lo.y, .int .i64 x.lo.z, .int .i64 x.hi.x, .int .i64 x.hi.y, .int .i64 x.hi.z]) (by rfl) (by rfl) HX6.out Tryz.underlying38 (by rfl) (by kernel_rfl) (by rfl) (by rfl) ?_
  simp only [Act.put, List.setIfInBounds_toArray, List.set_cons_zero, List.set_cons_succ]
  iterate 4 (refine SeqO.val (v := ?_) (by rfl) (by rfl) (fun w1 hS => ?_) ?_; rotate_left; (· obtain ⟨hc, hcf⟩ := bcell hS; go_simp; try with_reducible rfl); simp only [Act.put, List.setIfInBounds_toArray, List.set_cons_zero, List.set_cons_succ])
  refine SeqO.callv (by rfl) (by rfl) (by rfl) cf43 (by simp [Act.eval]) (fun w1 hS => rgrowC x mg w1) ?_
  simp only [Act.put, List.setIfInBounds_toArray, List.set_cons_zero, List.set_cons_succ]
  refine SeqO.nil0 fun w8 hS8 => ?_
  refine Ph.last ?_
  simp only [List.drop_succ_cons, List.drop_zero, List.take_succ_cons, List.take_zero, Nat.reduceSub, Nat.sub_zero]
  obtain ⟨y, hy⟩ : ∃ y, grow x mg = y := ⟨_, rfl⟩
  simp only [hy]
  have hb8 := hb6.trans (hS8.mono hb6.size)
  have hM : Below w8.heap.size w8 (w8.alloc (.cells (env ⟨q, x, y⟩).toArray 79)) := (Below.refl _ _).alloc (Nat.le_refl _) _
  have hO8 : OwnE (w8.alloc (.cells (env ⟨q, x, y⟩).toArray 79)) w3.heap.size v6 (L.take z) := (HO6.out.step hS8).step hM
  have hE8 : At' (w8.alloc (.cells (env ⟨q, x, y⟩).toArray 79)) w8.heap.size 0 (env ⟨q, x, y⟩) := (Box.new (w := w8) (l := env ⟨q, x, y⟩) (T := 79) rfl).part 0 13
  have hb9 := hb8.trans (hM.mono hb8.size)
  have hs9 : w3.heap.size ≤ (w8.alloc (.cells (env ⟨q, x, y⟩).toArray 79)).heap.size := hb9.size
  have HB9 := Lib.hid hb9
  clear hS8 hM hb8 hb9 HO6 HX6 c06 hg6 hs6 hb6
  go_wp2_with (at_builtin; refine wpE_app (t := ⟨q, x, y⟩) (by rfl) (.tmp 36) (.tmp 46) (by rfl) (by rfl) hO8 (by rfl) hE8 hm1 hs9 ?_; intro v9 w9 hO9 hB9; refine stop_ ?_)
  have hb9 := hB9 w3 HB9.out
  obtain ⟨ct9, hg9, hl9, hs9', hx9, _⟩ := HB6.out w9 hb9
  have hm9 : (List.take z L ++ [(⟨q, x, y⟩ : En)]).length ≤ 100000 := by rw [List.length_append, List.length_take, List.length_singleton]; omega
  clear hO8 hE8 hs9 hB9 HB9
  unfold Stop
  go_wp2_with (at_builtin; refine wpE_all (by rfl) (.tmp 49) (.tmp 55) (by rfl) (by rfl) hO9 (by rfl) hl9 hm9 (Nat.zero_le _) hs9' ?_; intro v7 w7 hO7 hB7; refine stop_ ?_)
  have hb7 := hB7 w3 hb9
  obtain ⟨ct7, hg7, _, _, hx7, _⟩ := HB6.out w7 hb7
  have cf7 := hx7.free 1
  clear ct9 hg9 hl9 hs9' hx9
  obtain ⟨A7, c7, n7, e7⟩ : ∃ A c n, v7 = .slice A n c := by obtain ⟨A, c, e, _⟩ := hO7.sl; exact ⟨_, _, _, e⟩
  subst e7
  unfold Stop
  go_wp2_with fail
  subst hy
  have hfr := fun v => (Fr.of_below (S := fun k => k = t) (HW3.out.trans (hb7.mono HW3.out.size))).trans (fr_cell w7 t 1 v) (fun j hj => .inl hj)
  exact bodyPost_ret (v := .int .i64 0) (by simp [results, Tryz.results18, go_sem]) rfl ⟨rfl, own_dt hO7 hx7 hg3 cf7 (fun k hk => HPP.out k (by have := HW3.out.size; omega)), hfr _⟩
set_option maxRecDepth 100000 in
set_option maxHeartbeats 4000000 in
theorem rpuA {t  : Nat} {mg q : Int} {x : Bd} {L : List En} {P : Nat → Prop} (w : World) (h : DT0 w t mg L none 0) (hq : 1 ≤ q ∧ q ≤ 4096) (hx : x.ok) (hn : L.length = 0) (hP : ∀ u, DT0 u t mg L none 0 → RetB Tryz.prog 42 #[.agg #[.int .i64 mg, .slice none 0 0], .int .i64 q] u (.tuple #[.int .i64 0, .bool false])) (hPP : ∀ k, w.heap.size ≤ k → P k) : Calls Tryz.prog 18 #[.pointer (some ⟨t, 0, none⟩), .int .i64 q, .agg #[.int .i64 x.lo.x, .int .i64 x.lo.y, .int .i64 x.lo.z, .int .i64 x.hi.x, .int .i64 x.hi.y, .int .i64 x.hi.z]] w fun e w' => e = .returned (.int .i64 0) ∧ DT w' t mg ((L.take 0 ++ [⟨q, x, grow x mg⟩]) ++ L.drop 0) P ∧ Fr w w' fun k => k = t := by
  have hb : Below w.heap.size w (w.alloc (.cells #[.int .i64 x.lo.x, .int .i64 x.lo.y, .int .i64 x.lo.z, .int .i64 x.hi.x, .int .i64 x.hi.y, .int .i64 x.hi.z] 38)) := (Below.refl _ _).alloc (Nat.le_refl _) _
  have hX : Box (w.alloc (.cells #[.int .i64 x.lo.x, .int .i64 x.lo.y, .int .i64 x.lo.z, .int .i64 x.hi.x, .int .i64 x.hi.y, .int .i64 x.hi.z] 38)) w.heap.size [.int .i64 x.lo.x, .int .i64 x.lo.y, .int .i64 x.lo.z, .int .i64 x.hi.x, .int .i64 x.hi.y, .int .i64 x.hi.z] 38 := Box.new rfl
  have t1 : decide (q < 1) = false := decide_eq_false (by omega)
  have t2 : decide (4096 < q) = false := decide_eq_false (by omega)
  have HC := Lib.hid (fun u => (rbdC x u).eq (v' := .int .i64 0) (by unfold errIf; rw [if_pos hx]))
  have H1 := h.step hb
  have HPL := Lib.hid hP; have HPP := Lib.hid hPP
  clear hPP
  have hlen := h.sl.1
  clear hx hq h hP
  go_enter Tryz.func18, Tryz.ntmps18
  go_wp2_with (refine wpL_load (l := [.int .i64 x.lo.x, .int .i64 x.lo.y, .int .i64 x.lo.z, .int .i64 x.hi.x, .int .i64 x.hi.y, .int .i64 x.hi.z]) (by rfl) (by rfl) hX Tryz.underlying38 (by rfl) (by kernel_rfl) (by kernel_rfl) ?_; (conv => arg 5; simp only [Act.put, List.setIfInBounds_toArray, List.set_cons_zero, List.set_cons_succ]))
  refine (HC.out _).mono ?_
  rintro e w2 ⟨rfl, hb2⟩
  have H2 := H1.step hb2
  have hX2 := hX.step hb2
  have HW2 := Lib.hid (hb.trans (hb2.mono hb.size))
  obtain ⟨g, hgx⟩ : ∃ g, w.heap.size = g := ⟨_, rfl⟩
  rw [hgx] at hX2
  have hbx2 : Box w2 t [.int .i64 mg, .slice none 0 0] 30 := hn ▸ H2.bx
  have lt2 := hbx2.lt
  have HP := HPL.out w2 H2
  clear H1 hb hb2 hX HC
  go_wp2_with (refine wpL_load (l := [.int .i64 mg, .slice none 0 0]) (by rfl) (by rfl) hbx2 Tryz.underlying30 (by rfl) (by kernel_rfl) (by kernel_rfl) ?_; (conv => arg 5; simp only [Act.put, List.setIfInBounds_toArray, List.set_cons_zero, List.set_cons_succ]))
  refine HP.mono ?_
  rintro e w3 ⟨rfl, hb3⟩
  have H3 := H2.step hb3
  have hX3 := hX2.step hb3
  have hbx3 := hbx2.step hb3
  have HW3 := Lib.hid (HW2.out.trans (hb3.mono HW2.out.size))
  have ct := hbx3.cell 1
  simp only [List.getElem?_cons_zero, List.getElem?_cons_succ] at ct
  have hg3 : t < w3.heap.size := hbx3.lt
  skip
  clear H2 hX2 hbx2 HP HPL HW2 hb3 lt2
  have hN : Below w3.heap.size w3 (w3.alloc (.cells #[] 79)) := (Below.refl _ _).alloc (Nat.le_refl _) _
  have hO0 : OwnE (w3.alloc (.cells #[] 79)) w3.heap.size (.slice (some ⟨w3.heap.size, 0, none⟩) 0 0) [] := DSl.own_new w3 [] (by simp)
  have hl1 : SlEC (w3.alloc (.cells #[] 79)) none 0 0 (L.take 0) := ⟨⟨by simp, fun h => absurd h (by omega)⟩, fun _ => rfl⟩
  have hz1 : 0 ≤ 100000 := by omega
  have hm1 : (List.take 0 L).length ≤ 100000 := by rw [List.length_take]; omega
  have hbN : w3.heap.size ≤ (w3.alloc (.cells #[] 79)).heap.size := hN.size
  have ctN : (w3.alloc (.cells #[] 79)).cell? ⟨t, 1, none⟩ = some (.slice none 0 0) := by rw [(bcell hN).1 t 1 hg3]; exact ct
  have hgN : t < (w3.alloc (.cells #[] 79)).heap.size := by omega
  have HN2 := Lib.hid hN
  have HB6 := Lib.hid (fun (u : World) (hu : Below w3.heap.size w3 u) => (show u.cell? ⟨t, 1, none⟩ = some (.slice none 0 0) ∧ t < u.heap.size ∧ SlEC u none 0 0 (L.drop 0) ∧ w3.heap.size ≤ u.heap.size ∧ Box u t [.int .i64 mg, .slice none 0 0] 30 ∧ Box u g [.int .i64 x.lo.x, .int .i64 x.lo.y, .int .i64 x.lo.z, .int .i64 x.hi.x, .int .i64 x.hi.y, .int .i64 x.hi.z] 38 from by
    have hx := (hbx3.step hu)
    have hs := H3.step hu
    exact ⟨hx.cell 1, by have := hu.size; omega, ⟨⟨by rw [List.length_drop]; omega, fun h => absurd h (by omega)⟩, fun _ => rfl⟩, hu.size, hx, hX3.step hu⟩))
  clear hN ct H3
  go_wp2_with (at_builtin; refine wpE_all (by rfl) (.tmp 28) (.tmp 34) (by rfl) (by rfl) hO0 (by rfl) hl1 (by simp) hz1 hbN ?_; intro v6 w6 hO6 hB6; refine stop_ ?_)
  have hb6 := hB6 w3 HN2.out
  obtain ⟨ct6, hg6, hl6, hs6, hx6, hX6⟩ := HB6.out w6 hb6
  clear ctN hgN hO0 hl1 hbN hB6 hl6 ct6
  rw [List.nil_append] at hO6
  have c06 := hx6.cell 0
  simp only [List.getElem?_cons_zero, List.getElem?_cons_succ] at c06
  have HX6 := Lib.hid hX6; have HO6 := Lib.hid hO6
  clear hX6 hO6 hx6 hbx3 hX3
  unfold Stop
  go_wp2_with fail
  refine wp_region_ph [(1, .pure), (9, .free [])] (by kernel_rfl) (by kernel_rfl) ?_
  refine Ph.pur (v := v6) (by rfl) (by rfl) ?hQ (by rfl) (fun w => by go_simp) ?_
  case hQ => intro c a v w h; exact h
  simp only [Act.put, List.setIfInBounds_toArray, List.set_cons_zero, List.set_cons_succ]
  refine Ph.belowd ?_
  simp only [List.drop_succ_cons, List.drop_zero, List.take_succ_cons, List.take_zero, Nat.reduceSub, Nat.sub_zero]
  iterate 1 (refine SeqO.val (v := ?_) (by rfl) (by rfl) (fun w1 hS => ?_) ?_; rotate_left; (· obtain ⟨hc, hcf⟩ := bcell hS; go_simp; try with_reducible rfl); simp only [Act.put, List.setIfInBounds_toArray, List.set_cons_zero, List.set_cons_succ])
  refine SeqO.row (l := [.int .i64 x.lo.x, .int .i64 x.lo.y, .int .i64 x.lo.z, .int .i64 x.hi.x, .int .i64 x.hi.y, .int .i64 x.hi.z]) (by rfl) (by rfl) HX6.out Tryz.underlying38 (by rfl) (by kernel_rfl) (by rfl) (by rfl) ?_
  simp only [Act.put, List.setIfInBounds_toArray, List.set_cons_zero, List.set_cons_succ]
  refine SeqO.row (l := [.int .i64 x.lo.x, .int .i64 x.lo.y, .int .i64 x.lo.z, .int .i64 x.hi.x, .int .i64 x.hi.y, .int .i64 x.hi.z]) (by rfl) (by rfl) HX6.out Tryz.underlying38 (by rfl) (by kernel_rfl) (by rfl) (by rfl) ?_
  simp only [Act.put, List.setIfInBounds_toArray, List.set_cons_zero, List.set_cons_succ]
  iterate 4 (refine SeqO.val (v := ?_) (by rfl) (by rfl) (fun w1 hS => ?_) ?_; rotate_left; (· obtain ⟨hc, hcf⟩ := bcell hS; go_simp; try with_reducible rfl); simp only [Act.put, List.setIfInBounds_toArray, List.set_cons_zero, List.set_cons_succ])
  refine SeqO.callv (by rfl) (by rfl) (by rfl) cf43 (by simp [Act.eval]) (fun w1 hS => rgrowC x mg w1) ?_
  simp only [Act.put, List.setIfInBounds_toArray, List.set_cons_zero, List.set_cons_succ]
  refine SeqO.nil0 fun w8 hS8 => ?_
  refine Ph.last ?_
  simp only [List.drop_succ_cons, List.drop_zero, List.take_succ_cons, List.take_zero, Nat.reduceSub, Nat.sub_zero]
  obtain ⟨y, hy⟩ : ∃ y, grow x mg = y := ⟨_, rfl⟩
  simp only [hy]
  have hb8 := hb6.trans (hS8.mono hb6.size)
  have hM : Below w8.heap.size w8 (w8.alloc (.cells (env ⟨q, x, y⟩).toArray 79)) := (Below.refl _ _).alloc (Nat.le_refl _) _
  have hO8 : OwnE (w8.alloc (.cells (env ⟨q, x, y⟩).toArray 79)) w3.heap.size v6 (L.take 0) := (HO6.out.step hS8).step hM
  have hE8 : At' (w8.alloc (.cells (env ⟨q, x, y⟩).toArray 79)) w8.heap.size 0 (env ⟨q, x, y⟩) := (Box.new (w := w8) (l := env ⟨q, x, y⟩) (T := 79) rfl).part 0 13
  have hb9 := hb8.trans (hM.mono hb8.size)
  have hs9 : w3.heap.size ≤ (w8.alloc (.cells (env ⟨q, x, y⟩).toArray 79)).heap.size := hb9.size
  have HB9 := Lib.hid hb9
  clear hS8 hM hb8 hb9 HO6 HX6 c06 hg6 hs6 hb6
  go_wp2_with (at_builtin; refine wpE_app (t := ⟨q, x, y⟩) (by rfl) (.tmp 36) (.tmp 46) (by rfl) (by rfl) hO8 (by rfl) hE8 hm1 hs9 ?_; intro v9 w9 hO9 hB9; refine stop_ ?_)
  have hb9 := hB9 w3 HB9.out
  obtain ⟨ct9, hg9, hl9, hs9', hx9, _⟩ := HB6.out w9 hb9
  have hm9 : (List.take 0 L ++ [(⟨q, x, y⟩ : En)]).length ≤ 100000 := by rw [List.length_append, List.length_take, List.length_singleton]; omega
  clear hO8 hE8 hs9 hB9 HB9
  unfold Stop
  go_wp2_with (at_builtin; refine wpE_all (by rfl) (.tmp 49) (.tmp 55) (by rfl) (by rfl) hO9 (by rfl) hl9 hm9 (Nat.zero_le _) hs9' ?_; intro v7 w7 hO7 hB7; refine stop_ ?_)
  have hb7 := hB7 w3 hb9
  obtain ⟨ct7, hg7, _, _, hx7, _⟩ := HB6.out w7 hb7
  have cf7 := hx7.free 1
  clear ct9 hg9 hl9 hs9' hx9
  obtain ⟨A7, c7, n7, e7⟩ : ∃ A c n, v7 = .slice A n c := by obtain ⟨A, c, e, _⟩ := hO7.sl; exact ⟨_, _, _, e⟩
  subst e7
  unfold Stop
  go_wp2_with fail
  subst hy
  have hfr := fun v => (Fr.of_below (S := fun k => k = t) (HW3.out.trans (hb7.mono HW3.out.size))).trans (fr_cell w7 t 1 v) (fun j hj => .inl hj)
  exact bodyPost_ret (v := .int .i64 0) (by simp [results, Tryz.results18, go_sem]) rfl ⟨rfl, own_dt hO7 hx7 hg3 cf7 (fun k hk => HPP.out k (by have := HW3.out.size; omega)), hfr _⟩
theorem rputC {t : Nat} {mg q : Int} {x : Bd} {L : List En} (w : World) {P : Nat → Prop} (h : DT w t mg L P) (hP : ∀ k, w.heap.size ≤ k → P k) (hr : Rise L) (hl : L.length ≤ 1000) :
    Calls Tryz.prog 18 #[.pointer (some ⟨t, 0, none⟩), .int .i64 q, .agg #[.int .i64 x.lo.x, .int .i64 x.lo.y, .int .i64 x.lo.z, .int .i64 x.hi.x, .int .i64 x.hi.y, .int .i64 x.hi.z]] w fun e w' => e = .returned (.int .i64 (putE L q x)) ∧ DT w' t mg (putL mg L q x) P ∧ Fr w w' fun k => k = t := by
  by_cases hq : 1 ≤ q ∧ q ≤ 4096
  · by_cases hx : x.ok
    · cases hc : isIn L q
      · have e0 : putE L q x = 0 := by unfold putE; rw [if_pos hq, if_pos hx, hc]; rfl
        have e1 : putL mg L q x = (L.take (lo L q).length ++ [⟨q, x, grow x mg⟩]) ++ L.drop (lo L q).length := by unfold putL; rw [if_pos e0, ins_is L q _ rfl]
        rw [e0, e1]
        have hz := lo_len L q
        obtain ⟨A, cap, h, hA⟩ := h
        have hlc := h.lc
        have HP : ∀ u, DT0 u t mg L A cap → RetB Tryz.prog 42 #[.agg #[.int .i64 mg, .slice A L.length cap], .int .i64 q] u (.tuple #[.int .i64 ((lo L q).length : Nat), .bool false]) := fun u hu => by
          have := placeC cap mg q u hu.sl hr (by omega); rwa [hc] at this
        clear e0 e1 hc hr
        revert HP hz
        generalize (lo L q).length = z
        intro hz HP
        cases A with
        | none =>
          have hn0 : L.length = 0 := by
            rcases Nat.eq_zero_or_pos L.length with h0 | h0
            · exact h0
            · obtain ⟨_, _, e, _⟩ := h.sl.2 h0; cases e
          have := h.nl rfl
          subst this
          obtain rfl : z = 0 := by omega
          rw [hn0] at HP
          exact rpuA w h hq hx hn0 HP hP
        | some a =>
          by_cases hcz : cap = z
          · subst hcz
            have hn0 : L.length = cap := by omega
            rw [hn0] at HP
            exact rpuB w h (by omega) hq hx hn0 HP hP
          · exact rpuC w h hl hq hx rfl hz hcz HP hP
      · have e0 : putE L q x = 5 := by unfold putE; rw [if_pos hq, if_pos hx, hc]; rfl
        have e1 : putL mg L q x = L := by unfold putL; rw [if_neg (by rw [e0]; decide)]
        rw [e0, e1]
        exact (rpuIs w h hP hr hl hq hx hc).mono fun e w' ⟨he, hb⟩ => ⟨he, h.step hb, Fr.of_below hb⟩
    · have e0 : putE L q x = 7 := by unfold putE; rw [if_pos hq, if_neg hx]
      have e1 : putL mg L q x = L := by unfold putL; rw [if_neg (by rw [e0]; decide)]
      rw [e0, e1]
      exact (rpuBad w hq hx).mono fun e w' ⟨he, hb⟩ => ⟨he, h.step hb, Fr.of_below hb⟩
  · have e0 : putE L q x = 2 := if_neg hq
    have e1 : putL mg L q x = L := by unfold putL; rw [if_neg (by rw [e0]; decide)]
    rw [e0, e1]
    exact (rpuRng w hq).mono fun e w' ⟨he, hb⟩ => ⟨he, h.step hb, Fr.of_below hb⟩
end DPu
end Go.Proofs.YtbcjnckejkjfeaaGreat
namespace Go.Proofs.YtbcjnckejkjfeaaGreat
set_option linter.unusedVariables false
set_option linter.unusedSimpArgs false
open Go.RowKit Go.NP
namespace TNw
open TrP TrW TrC TrA TrF TrG TrX TrY TrK THg TCt QVl QVm TMp TrE TrI TAs TPu TDr TSt
set_option maxRecDepth 100000 in
set_option maxHeartbeats 2000000 in
theorem newNo {mg : Int} (w : World) (h : ¬ (0 ≤ mg ∧ mg ≤ 1048576)) : RetB Tryz.prog 5 #[.int .i64 mg] w (.tuple #[.pointer none, .int .i64 2]) := by
  unfold RetB
  by_cases h1 : mg < 0
  · have t1 : decide (mg < 0) = true := decide_eq_true h1
    go_enter Tryz.func5, Tryz.ntmps5
    go_wp2_with fail
    exact bodyPost_ret (v := .tuple #[.pointer none, .int .i64 2]) (by simp [results, Tryz.results5, go_sem, *]) rfl ⟨rfl, Below.refl _ _⟩
  · have t1 : decide (mg < 0) = false := decide_eq_false h1
    have t2 : decide (1048576 < mg) = true := decide_eq_true (by omega)
    go_enter Tryz.func5, Tryz.ntmps5
    go_wp2_with fail
    exact bodyPost_ret (v := .tuple #[.pointer none, .int .i64 2]) (by simp [results, Tryz.results5, go_sem, *]) rfl ⟨rfl, Below.refl _ _⟩
/-- A new tree lies in new blocks. -/
theorem made_ti {mg : Int} (w : World) (h : 0 ≤ mg ∧ mg ≤ 1048576) (w1 : World) (hw1 : w1 = w.alloc (.map #[] 0)) :
    ∃ S, TI (w1.alloc (.cells [.bool true, .int .i64 mg, .slice none 0 0, .slice none 0 0, .int .i64 (-1), .map (some w.heap.size)].toArray 60)) w1.heap.size mg [] S 0 ∧ ∀ k, S k → w.heap.size ≤ k := by
  have hs1 : w1.heap.size = w.heap.size + 1 := by rw [hw1]; simp
  have hv : VM w1 w.heap.size (im fun _ => none) 0 := by rw [hw1]; exact VM.made w
  have hB : Box (w1.alloc (.cells [.bool true, .int .i64 mg, .slice none 0 0, .slice none 0 0, .int .i64 (-1), .map (some w.heap.size)].toArray 60)) w1.heap.size [.bool true, .int .i64 mg, .slice none 0 0, .slice none 0 0, .int .i64 (-1), .map (some w.heap.size)] 60 := Box.new rfl
  have hS : Below w1.heap.size w1 (w1.alloc (.cells [.bool true, .int .i64 mg, .slice none 0 0, .slice none 0 0, .int .i64 (-1), .map (some w.heap.size)].toArray 60)) := (Below.refl _ _).alloc (Nat.le_refl _) _
  revert hB hS
  generalize w1.alloc (.cells [.bool true, .int .i64 mg, .slice none 0 0, .slice none 0 0, .int .i64 (-1), .map (some w.heap.size)].toArray 60) = w2
  intro hB hS
  let T : Tn := ⟨w1.heap.size, w1.heap.size, 0, 0, fun _ => ⟨bzero, bzero, 0, 0, 0, 0, 0⟩, -1, mg, .slice none 0 0, .map (some w.heap.size)⟩
  have hX : TX w2 T [] w.heap.size 0 (fun _ => none) := by
    refine ⟨.inl ⟨rfl, rfl, rfl, hB⟩, OwnV.nil _ _ _, rfl, hv.step hS, ?_, ?_, fun k hk => (by cases hk), Nat.zero_le _⟩
    · show w.heap.size ≠ w1.heap.size; omega
    · show w.heap.size ≠ w1.heap.size; omega
  refine ⟨own T w.heap.size, ⟨T, [], [], [], w.heap.size, 0, fun _ => none, ⟨⟨hX, .inl ⟨rfl, rfl, rfl⟩, List.nodup_nil, fun i hi => (by cases hi), Nat.le_refl _, Nat.le_refl _, Nat.le_refl _⟩, rfl, rfl, h, List.Perm.refl _, List.Pairwise.nil, fun n i => ⟨fun q => (by cases q), fun q => (by cases q.1)⟩, fun e he => (by cases he), Nat.le_refl _⟩, rfl⟩, fun k hk => ?_⟩
  rcases hk with q | q | q | q
  · have q : k = w1.heap.size := q; omega
  · have q : k = w1.heap.size := q; omega
  · cases q
  · omega
set_option maxRecDepth 100000 in
set_option maxHeartbeats 2000000 in
theorem newC {mg : Int} (w : World) (h : 0 ≤ mg ∧ mg ≤ 1048576) : Calls Tryz.prog 5 #[.int .i64 mg] w fun e w' => ∃ p S, e = .returned (.tuple #[.pointer (some ⟨p, 0, none⟩), .int .i64 0]) ∧ TI w' p mg [] S 0 ∧ (∀ k, S k → w.heap.size ≤ k) ∧ Below w.heap.size w w' := by
  have t1 : decide (mg < 0) = false := decide_eq_false (by omega)
  have t2 : decide (1048576 < mg) = false := decide_eq_false (by omega)
  have mm : (Instr.makeMap 57 none).run Tryz.prog w = .ok (.map (some w.heap.size)) (w.alloc (.map #[] 0)) := by kernel_rfl
  go_enter Tryz.func5, Tryz.ntmps5
  go_wp2_with fail
  obtain ⟨S, h1, h2⟩ := made_ti w h _ rfl
  have hs : (w.alloc (.map #[] 0)).heap.size = w.heap.size + 1 := by simp
  rw [hs] at h1
  exact bodyPost_ret (v := .tuple #[.pointer (some ⟨w.heap.size + 1, 0, none⟩), .int .i64 0]) (by simp [results, Tryz.results5, go_sem, *]) rfl ⟨w.heap.size + 1, S, rfl, h1, h2, ((Below.refl _ _).alloc (Nat.le_refl _) _).alloc (by simp) _⟩
/-- How many leaves there are, at so many steps. -/
theorem bal_lv : ∀ t : Tr, t.Bal → 2 ^ ((t.hgt.toNat + 1) / 2) ≤ t.lv.length ∧ 0 ≤ t.hgt
  | .leaf i, _ => ⟨by simp [Tr.hgt, Tr.lv], Int.le_refl _⟩
  | .node i l r, h => by
    obtain ⟨b1, b2, b3, b4⟩ := h
    obtain ⟨h1, p1⟩ := bal_lv l b1
    obtain ⟨h2, p2⟩ := bal_lv r b2
    simp only [Tr.hgt, Tr.lv, List.length_append]
    obtain ⟨x, hx⟩ : ∃ x : Nat, l.hgt = x := ⟨l.hgt.toNat, by omega⟩
    obtain ⟨y, hy⟩ : ∃ y : Nat, r.hgt = y := ⟨r.hgt.toNat, by omega⟩
    rw [hx] at h1 b3 b4 ⊢
    rw [hy] at h2 b3 b4 ⊢
    simp only [Int.toNat_natCast] at h1 h2
    refine ⟨?_, by omega⟩
    have key : ∀ a b : Nat, b ≤ a → a ≤ b + 1 → 2 ^ ((a + 1 + 1) / 2) ≤ 2 ^ ((a + 1) / 2) + 2 ^ ((b + 1) / 2) := fun a b hab hba => by
      by_cases e : a % 2 = 0
      · have e1 : (a + 1 + 1) / 2 = a / 2 + 1 := by omega
        have e2 : (a + 1) / 2 = a / 2 := by omega
        have e3 : (b + 1) / 2 = a / 2 := by omega
        rw [e1, e2, e3, Nat.pow_succ]; omega
      · have e1 : (a + 1 + 1) / 2 = (a + 1) / 2 := by omega
        rw [e1]; exact Nat.le_add_right _ _
    rcases Nat.le_total y x with hle | hle
    · have e : (1 + max (x : Int) (y : Int)).toNat = x + 1 := by omega
      rw [e]
      have := key x y hle (by omega)
      omega
    · have e : (1 + max (x : Int) (y : Int)).toNat = y + 1 := by omega
      rw [e]
      have := key y x hle (by omega)
      omega
/-- How high a tree of so many may be. -/
def HgtOK (n : Nat) (h : Int) : Prop := 0 ≤ h ∧ (n < 2 → h = 0) ∧ (0 < n → 2 ^ ((h.toNat + 1) / 2) ≤ n)
theorem hgt_ok {t : Tr} (h : t.Bal) : HgtOK t.lv.length t.hgt := by
  obtain ⟨h1, h2⟩ := bal_lv t h
  refine ⟨h2, fun hn => ?_, fun _ => h1⟩
  cases t with
  | leaf i => rfl
  | node i l r =>
    have a1 := (bal_lv l h.1).1
    have a2 := (bal_lv r h.2.1).1
    have c1 : 0 < 2 ^ ((l.hgt.toNat + 1) / 2) := Nat.pow_pos (by omega)
    have c2 : 0 < 2 ^ ((r.hgt.toNat + 1) / 2) := Nat.pow_pos (by omega)
    simp only [Tr.lv, List.length_append] at hn
    omega
theorem ti_len {w : World} {p K : Nat} {mg : Int} {L : List En} {T : Tn} {F al lv : List Int} {b c : Nat} {pl : Int → Option Int} (h : TI0 w p mg L K T F al lv b c pl) : lv.length = L.length := by have := h.perm.length_eq; rwa [List.length_map] at this
set_option maxRecDepth 100000 in
set_option maxHeartbeats 2000000 in
theorem lenC {p K : Nat} {mg : Int} {L : List En} {S : Nat → Prop} (w : World) (h : TI w p mg L S K) : RetB Tryz.prog 8 #[.pointer (some ⟨p, 0, none⟩)] w (.int .i64 (L.length : Nat)) := by
  obtain ⟨T, F, al, lv, b, c, pl, h, rfl⟩ := h
  have c5 : w.cell? ⟨p, 5, none⟩ = some (.map (some b)) := by have := TO.mpc h.ts.tx.to; rw [h.p_, h.ts.tx.mp] at this; exact this
  have hv := h.ts.tx.vm
  have hL : (L.map (·.n)).Pairwise (· < ·) := List.pairwise_map.2 h.rise
  have hm : ∀ x, x ∈ L.map (·.n) ↔ wfI x ∧ (im pl x).isSome = true := fun x => by
    rw [im_some, List.mem_map]
    constructor
    · rintro ⟨e, he, rfl⟩
      obtain ⟨a, ha, _⟩ := h.look_in (isIn_iff.2 ⟨e, he, rfl⟩)
      exact ⟨wf_rng (h.rng e he), by rw [ha]; rfl⟩
    · rintro ⟨_, hx⟩
      obtain ⟨i, hi⟩ := Option.isSome_iff_exists.1 hx
      obtain ⟨h1, h2⟩ := (h.pls x i).1 hi
      exact ⟨_, h.mem h1, h2⟩
  have hp := h.lt
  have hl : (L.map (·.n)).length = L.length := List.length_map _
  unfold RetB
  rw [← hl]
  clear h
  go_enter Tryz.func8, Tryz.ntmps8
  go_wp2_with (at_len; refine wpL_mlen (by rfl) _ (by rfl) (by rfl) hv Tryz.underlying57 hL hm ?_)
  exact bodyPost_ret (v := .int .i64 ((L.map (·.n)).length : Nat)) (by simp [results, Tryz.results8, go_sem]) rfl ⟨rfl, Below.refl _ _⟩
set_option maxRecDepth 100000 in
set_option maxHeartbeats 2000000 in
theorem heightC {p K : Nat} {mg : Int} {L : List En} {S : Nat → Prop} (w : World) (h : TI w p mg L S K) : Calls Tryz.prog 9 #[.pointer (some ⟨p, 0, none⟩)] w fun e w' => ∃ h, e = .returned (.int .i64 h) ∧ HgtOK L.length h ∧ Below w.heap.size w w' := by
  obtain ⟨T, F, al, lv, b, c, pl, h, rfl⟩ := h
  obtain rfl := h.p_
  have hl := ti_len h
  have c0 := TO.madec h.ts.tx.to
  have c4 := TO.topc h.ts.tx.to
  have hp := h.lt
  rcases h.ts.sh with ⟨h1, h2, h3⟩ | ⟨s, h1, h2, h3, h4, h5, h6⟩
  · rw [h1] at c4
    have u1 : ((-1 : Int) == -1) = true := by decide
    have hL : L.length = 0 := by rw [← hl, h3]; rfl
    have HO := Lib.hid (show HgtOK L.length 0 from ⟨Int.le_refl _, fun _ => rfl, fun q => by omega⟩)
    clear h
    go_enter Tryz.func9, Tryz.ntmps9
    go_wp2_with fail
    exact bodyPost_ret (v := .int .i64 0) (by simp [results, Tryz.results9, go_sem]) rfl ⟨0, rfl, HO.out, Below.refl _ _⟩
  · have hr := h.ts.rng s.ix (List.mem_append_left _ (h5.mem_iff.1 s.ix_all))
    obtain ⟨k, hk⟩ : ∃ n : Nat, s.ix = n := ⟨s.ix.toNat, by omega⟩
    rw [h4, hk] at c4
    have u1 : ((k : Int) == -1) = false := by simp only [beq_eq_false_iff_ne, ne_eq]; omega
    have hT : TN w T := by
      rcases h.ts.tx.to with ⟨q, _⟩ | q
      · omega
      · exact q
    have kN : k < T.N := by omega
    have c2 := hT.nodes
    have ch := hT.cell kN (j := 16) rfl
    have hg : (T.m k).h = s.hgt := by rw [← hk]; exact Fit.hgt h2
    rw [hg] at ch
    have k0 : 0 ≤ (k : Int) ∧ (k : Int) < T.N := by omega
    have hgl := (TN.lt hT).2
    have HO := Lib.hid (show HgtOK L.length s.hgt from by rw [← hl, ← h6.length_eq]; exact hgt_ok h3)
    clear h hT h1 h2 h3 h5 h6
    go_enter Tryz.func9, Tryz.ntmps9
    go_wp2_with fail
    refine wp_region_ph [(11, .free [])] (by kernel_rfl) (by kernel_rfl) ?_
    refine Ph.belowd ?_
    simp only [List.drop_succ_cons, List.drop_zero, List.take_succ_cons, List.take_zero, Nat.reduceSub, Nat.sub_zero]
    iterate 11 (refine SeqO.val (v := ?_) (by rfl) (by rfl) (fun w1 hS => ?_) ?_; rotate_left; (· obtain ⟨hc, hcf⟩ := bcell hS; go_simp; try with_reducible rfl); simp only [Act.put, List.setIfInBounds_toArray, List.set_cons_zero, List.set_cons_succ])
    refine SeqO.nil0 fun w2 hS2 => ?_
    refine Ph.last ?_
    simp only [List.drop_succ_cons, List.drop_zero, List.take_succ_cons, List.take_zero, Nat.reduceSub, Nat.sub_zero]
    go_wp2_with fail
    exact bodyPost_ret (v := .int .i64 s.hgt) (by simp [results, Tryz.results9, go_sem]) rfl ⟨s.hgt, rfl, HO.out, hS2⟩
end TNw
end Go.Proofs.YtbcjnckejkjfeaaGreat
