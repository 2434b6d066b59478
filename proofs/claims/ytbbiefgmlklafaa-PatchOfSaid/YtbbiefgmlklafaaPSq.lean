/- The square of the laws about patches; how far spots are apart: the walks. No condition but that the points may be. -/
import Derived.Test.YtbbiefgmlklafaaPPa
import Derived.Test.YtbbiefgmlklafaaPSa
namespace Go.Proofs.Ytbbiefgmlklafaa
set_option linter.unusedVariables false
set_option linter.unusedSimpArgs false
open Go.RowKit Go.NP
namespace PSq
open PGr PCk PCl PPl
def sq5 : List Spo := [⟨1, 0, ⟨0, 0, 0⟩⟩, ⟨1, 1, ⟨2, 2, 0⟩⟩, ⟨1, 2, ⟨-2, 2, 0⟩⟩, ⟨1, 3, ⟨-2, -2, 0⟩⟩, ⟨2, 0, ⟨2, -2, 0⟩⟩]
/-- What hands back spots of one's own. -/
def RetS (f : Nat) (args : Array Value) (w : World) (l : List Spo) : Prop := Calls Try.prog f args w fun e w' => ∃ v, e = .returned v ∧ OwnS w' w.heap.size v l ∧ Below w.heap.size w w'
theorem c0 : checkS sq5 = 0 := by decide
theorem c3 : checkS (sq5.take 3) = 0 := by decide
theorem c1 : checkS [⟨4, 0, ⟨0, 0, 0⟩⟩] = 2 := by decide
theorem a1 : at1 sq5 = 1 := by decide +kernel
theorem a2 : at2 sq5 = 2 := by decide +kernel
theorem a3 : at3 sq5 = 3 := by decide +kernel
theorem four5 : four sq5 = [0, 1, 2, 3] := by
  unfold four
  rw [a1, a2, a3]
  first | exact List.mergeSort_of_pairwise (by decide) | exact List.mergeSort_of_sorted (by decide)
theorem p5 : patchS sq5 = [nth sq5 0, nth sq5 1, nth sq5 2, nth sq5 3] := by
  unfold patchS places
  rw [if_pos c0, if_neg (by decide), four5]
  decide +kernel
theorem p3 : patchS (sq5.take 3) = sq5.take 3 := by decide +kernel
theorem p1 : patchS [⟨4, 0, ⟨0, 0, 0⟩⟩] = [] := by decide +kernel
theorem own_new (w : World) (l : List Spo) (h : l.length ≤ 1000) : OwnS (w.alloc (.cells (spvs l).toArray 32)) w.heap.size (.slice (some ⟨w.heap.size, 0, none⟩) l.length l.length) l := by
  have hl := spvs_len l
  refine ⟨hl, .inr ⟨w.heap.size, l.length, (spvs l).toArray, rfl, Nat.le_refl _, ?_, Nat.le_refl _, ?_, by simpa using hl, ?_⟩⟩
  · exact Box.new rfl
  · simp [maxLen]; omega
  · rw [List.take_of_length_le (by simpa using Nat.le_of_eq hl)]
set_option maxRecDepth 100000 in
set_option maxHeartbeats 2000000 in
theorem squareC (w : World) : Calls Try.prog 15 #[] w fun e w' => ∃ g, e = .returned (.slice (some ⟨g, 0, none⟩) 5 5) ∧ g < w'.heap.size ∧ SAt w' g 0 sq5 ∧ Below w.heap.size w w' := by
  go_enter Try.func15, Try.ntmps15
  go_wp2
  go_ret
  obtain ⟨A, c, h1, h2⟩ := (own_new w sq5 (by decide)).sl
  obtain ⟨b, off, h3, hb, hs⟩ := h2.2 (by decide)
  rw [h3] at h1; cases h1
  exact ⟨_, rfl, hb, hs, (Below.refl _ _).alloc (Nat.le_refl _) _⟩
theorem own_at {w : World} {base : Nat} {v : Value} {l : List Spo} (n : Nat) (h : OwnS w base v l) (hn : l.length = n) (h0 : 0 < n) : ∃ b off c, v = .slice (some ⟨b, off, none⟩) n c ∧ b < w.heap.size ∧ SAt w b off l := by
  obtain ⟨A, c, h1, h2⟩ := h.sl
  obtain ⟨b, off, rfl, hb, hs⟩ := h2.2 (by omega)
  exact ⟨b, off, c, by rw [h1, hn], hb, hs⟩
theorem one_sl (w : World) (s : Spo) : SlS (w.alloc (.cells (spv s).toArray 32)) (some ⟨w.heap.size, 0, none⟩) 1 [s] := by
  refine ⟨rfl, fun _ => ⟨w.heap.size, 0, rfl, by simp, fun k t hk j v hv => ?_⟩⟩
  have h1 : k < 1 := get_lt hk
  obtain rfl : k = 0 := by omega
  obtain rfl : s = t := by simpa using hk
  have hB : Box (w.alloc (.cells (spv s).toArray 32)) w.heap.size (spv s) 32 := Box.new rfl
  have := hB.cell j
  rw [show 0 + 0 * 5 + j = j by omega, this]; exact hv
theorem sat_take {w : World} {b off : Nat} {l : List Spo} (h : SAt w b off l) (n : Nat) : SAt w b off (l.take n) := fun k s hk => h k s (by
  have := get_lt hk
  rw [List.getElem?_take_of_lt (by simp at this; omega)] at hk; exact hk)
set_option maxRecDepth 100000 in
set_option maxHeartbeats 2000000 in
theorem apartC {a b : Spo} (ha : a.p.ok) (hb : b.p.ok) (w : World) : RetB Try.prog 12 #[.agg #[.int .i64 a.side, .int .i64 a.at_, .int .i64 a.p.x, .int .i64 a.p.y, .int .i64 a.p.z], .agg #[.int .i64 b.side, .int .i64 b.at_, .int .i64 b.p.x, .int .i64 b.p.y, .int .i64 b.p.z]] w (.agg #[.int .u64 (w8 (GDot.far a.p b.p)).a, .int .u64 (w8 (GDot.far a.p b.p)).b, .int .u64 (w8 (GDot.far a.p b.p)).c, .int .u64 (w8 (GDot.far a.p b.p)).d, .int .u64 (w8 (GDot.far a.p b.p)).e, .int .u64 (w8 (GDot.far a.p b.p)).f, .int .u64 (w8 (GDot.far a.p b.p)).g, .int .u64 (w8 (GDot.far a.p b.p)).h]) := by
  have hd := PSp.psub_sP ha hb
  have O2 := Lib.hid (fun w => GDot.dotV hd hd w)
  obtain ⟨⟨a1, a2⟩, ⟨a3, a4⟩, a5, a6⟩ := ha
  obtain ⟨⟨b1, b2⟩, ⟨b3, b4⟩, b5, b6⟩ := hb
  clear hd
  unfold RetB
  go_enter Try.func12, Try.ntmps12
  go_wp2_with fail
  refine (O2.out _).mono ?_
  rintro e w2 ⟨rfl, hS⟩
  have hR : Box w2 (w.heap.size + 1 + 1) [.int .u64 0, .int .u64 0, .int .u64 0, .int .u64 0, .int .u64 0, .int .u64 0, .int .u64 0, .int .u64 0] 37 := ((Box.new (by simp)).alloc _).step hS
  have hW : Below w.heap.size w w2 := (((((Below.refl _ _).alloc (Nat.le_refl _) _).alloc (by simp) _).alloc (by simp; omega) _).alloc (by simp; omega) _).trans (hS.mono (by simp; omega))
  clear hS
  have l0 := hR.lt
  have q0 := (hR).cell 0; have q1 := (hR).cell 1; have q2 := (hR).cell 2; have q3 := (hR).cell 3; have q4 := (hR).cell 4; have q5 := (hR).cell 5; have q6 := (hR).cell 6; have q7 := (hR).cell 7; have qf := (hR).free
  simp only [List.getElem?_cons_zero, List.getElem?_cons_succ] at q0 q1 q2 q3 q4 q5 q6 q7
  go_wp2
  exact bodyPost_ret (v := .agg #[.int .u64 (w8 (GDot.far a.p b.p)).a, .int .u64 (w8 (GDot.far a.p b.p)).b, .int .u64 (w8 (GDot.far a.p b.p)).c, .int .u64 (w8 (GDot.far a.p b.p)).d, .int .u64 (w8 (GDot.far a.p b.p)).e, .int .u64 (w8 (GDot.far a.p b.p)).f, .int .u64 (w8 (GDot.far a.p b.p)).g, .int .u64 (w8 (GDot.far a.p b.p)).h]) (by simp [results, Try.results12, go_sem, GDot.far, *]) rfl ⟨rfl, ((((((((hW).setCell (by first | omega | (simp; done) | (simp; omega)) _).setCell (by first | omega | (simp; done) | (simp; omega)) _).setCell (by first | omega | (simp; done) | (simp; omega)) _).setCell (by first | omega | (simp; done) | (simp; omega)) _).setCell (by first | omega | (simp; done) | (simp; omega)) _).setCell (by first | omega | (simp; done) | (simp; omega)) _).setCell (by first | omega | (simp; done) | (simp; omega)) _).setCell (by first | omega | (simp; done) | (simp; omega)) _⟩
set_option maxRecDepth 100000 in
set_option maxHeartbeats 2000000 in
theorem awakeC (w : World) : RetB Try.prog 6 #[] w (.bool true) := by
  unfold RetB
  go_enter Try.func6, Try.ntmps6
  go_wp2_with fail
  refine (squareC _).mono ?_
  rintro e w1 ⟨g1, rfl, hg1, hs1, hW⟩
  go_wp2_with fail
  refine (PPa.patchC 5 _ (A := some ⟨g1, 0, none⟩) (n := 5) ⟨rfl, fun _ => ⟨g1, 0, rfl, hg1, hs1⟩⟩).mono ?_
  rintro e w2 ⟨v, rfl, hO, hS⟩
  rw [c0, p5] at *
  have hW := hW.trans (hS.mono hW.size)
  clear hS hs1 hg1
  go_wp2_with fail
  refine (squareC _).mono ?_
  rintro e w3 ⟨g3, rfl, hg3, hs3, hS⟩
  have hO := hO.step hS
  have hW := hW.trans (hS.mono hW.size)
  clear hS
  go_wp2_with fail
  refine (PPa.patchC 5 _ (A := some ⟨g3, 0, none⟩) (n := 3) ⟨rfl, fun _ => ⟨g3, 0, rfl, hg3, sat_take hs3 3⟩⟩).mono ?_
  rintro e w4 ⟨v4, rfl, hO4, hS⟩
  rw [c3, p3] at *
  have hO := hO.step hS
  have hW := hW.trans (hS.mono hW.size)
  clear hS hs3 hg3
  go_wp2_with fail
  refine (PPa.patchC 1 _ (A := some ⟨w4.heap.size, 0, none⟩) (n := 1) (l := [⟨4, 0, ⟨0, 0, 0⟩⟩]) (one_sl w4 ⟨4, 0, ⟨0, 0, 0⟩⟩)).mono ?_
  rintro e w5 ⟨v5, rfl, hO5, hS⟩
  rw [c1, p1] at *
  have hN := (Below.refl w4.heap.size w4).alloc (Nat.le_refl _) (.cells (spv ⟨4, 0, ⟨0, 0, 0⟩⟩).toArray 32)
  have hO := (hO.step hN).step hS
  have hO4 := (hO4.step hN).step hS
  have hW := (hW.trans (hN.mono hW.size)).trans (hS.mono (by have := hW.size; simp; omega))
  obtain ⟨b, off, c, rfl, hb, hs⟩ := own_at 4 hO rfl (by decide)
  obtain ⟨b4, off4, c4, rfl, hb4, hs4⟩ := own_at 3 hO4 rfl (by decide)
  have at0 := hs 0 ⟨1, 0, ⟨0, 0, 0⟩⟩ rfl
  have z := hs 1 ⟨1, 1, ⟨2, 2, 0⟩⟩ rfl 1 _ rfl
  have z0 := at0 0 _ rfl; have z1 := at0 1 _ rfl; have z2 := at0 2 _ rfl; have z3 := at0 3 _ rfl; have z4 := at0 4 _ rfl
  simp only [Nat.zero_mul, Nat.one_mul, Nat.add_zero] at z0 z1 z2 z3 z4 z
  have z' := z
  simp only [Nat.add_assoc, Nat.reduceAdd] at z'
  clear hO5 hS hN hO hO4 hs hs4
  go_wp2
  go_ret
  exact ⟨rfl, hW⟩
end PSq
end Go.Proofs.Ytbbiefgmlklafaa
