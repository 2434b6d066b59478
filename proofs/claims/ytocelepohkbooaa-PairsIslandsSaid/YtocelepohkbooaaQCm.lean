/- slices.Compact of pairs of one's own: the walk. No condition but the length. -/
import Derived.Test.YtocelepohkbooaaQCp
import Derived.Test.YtocelepohkbooaaQCk
import Derived.Lib.SlicesCompact
import Derived.Deep.MidRow
namespace Go.Proofs.Ytocelepohkbooaa
set_option linter.unusedVariables false
set_option linter.unusedSimpArgs false
open Go.RowKit Go.NP Go.Lib
instance : Inhabited Pr := ⟨⟨0, 0⟩⟩
namespace QCm
open QCp
/-- Cells that hold pairs, from the first one on. -/
def Cells (L : List Value) (ds : List Pr) : Prop := ∀ k p, ds[k]? = some p → L[k * 2]? = some (.int .i64 p.a) ∧ L[k * 2 + 1]? = some (.int .i64 p.b)
theorem Cells.at {w : World} {g : Nat} {L : List Value} {ds : List Pr} (hB : Box w g L 39) (h : Cells L ds) {k : Nat} {p : Pr} (hk : ds[k]? = some p) : At' w g (k * 2) [.int .i64 p.a, .int .i64 p.b] := fun j v hv => by
  obtain ⟨h1, h2⟩ := h k p hk
  have hj : j < 2 := get_lt hv
  rcases (by omega : j = 0 ∨ j = 1) with rfl | rfl
  · cases hv; rw [Nat.add_zero, hB.cell]; exact h1
  · cases hv; rw [hB.cell]; exact h2
theorem Cells.set {L : List Value} {ds : List Pr} (h : Cells L ds) {k : Nat} (p : Pr) (hL : k * 2 + 1 < L.length) : Cells ((L.set (k * 2) (.int .i64 p.a)).set (k * 2 + 1) (.int .i64 p.b)) (ds.set k p) := fun j q hq => by
  by_cases e : j = k
  · subst e
    have hj : j < ds.length := by have := get_lt hq; simpa using this
    rw [List.getElem?_set_self hj] at hq
    cases hq
    refine ⟨?_, ?_⟩
    · rw [List.getElem?_set_ne (by omega), List.getElem?_set_self (by omega)]
    · rw [List.getElem?_set_self (by rw [List.length_set]; omega)]
  · rw [List.getElem?_set_ne (fun h => e h.symm)] at hq
    obtain ⟨h1, h2⟩ := h j q hq
    refine ⟨?_, ?_⟩
    · rw [List.getElem?_set_ne (by omega), List.getElem?_set_ne (by omega)]; exact h1
    · rw [List.getElem?_set_ne (by omega), List.getElem?_set_ne (by omega)]; exact h2
theorem cells_of {L : List Value} {ds : List Pr} (h : L.take (ds.length * 2) = prvs ds) : Cells L ds := fun k p hk => by
  have hl := get_lt hk
  have h1 := prvs_get ds k p 0 _ hk rfl
  have h2 := prvs_get ds k p 1 _ hk rfl
  rw [← h, List.getElem?_take_of_lt (by omega)] at h1 h2
  exact ⟨h1, h2⟩
theorem Cells.take {L : List Value} {ds : List Pr} (h : Cells L ds) (hl : ds.length * 2 ≤ L.length) : L.take (ds.length * 2) = prvs ds := by
  apply List.ext_getElem?
  intro j
  by_cases hj : j < ds.length * 2
  · rw [List.getElem?_take_of_lt hj]
    have hk : ds[j / 2]? = some ds[j / 2] := List.getElem?_eq_getElem (by omega)
    obtain ⟨h1, h2⟩ := h _ _ hk
    rcases (by omega : j % 2 = 0 ∨ j % 2 = 1) with e | e
    · have := prvs_get ds _ _ 0 _ hk rfl
      rw [show j / 2 * 2 + 0 = j by omega] at this
      rw [show j / 2 * 2 = j by omega] at h1
      rw [h1, this]
    · have := prvs_get ds _ _ 1 _ hk rfl
      rw [show j / 2 * 2 + 1 = j by omega] at this h2
      rw [h2, this]
  · rw [List.getElem?_eq_none (by rw [List.length_take]; omega), List.getElem?_eq_none (by rw [prvs_len]; omega)]
theorem keeps_is {l : List Pr} {j : Nat} {p q : Pr} (hp : l[j]? = some p) (hq : l[j + 1]? = some q) : keeps l.toArray (j + 1) = !decide (q = p) := by
  have h1 := get_lt hp; have h2 := get_lt hq
  unfold keeps
  rw [getElem!_pos l.toArray (j + 1) (by simpa using h2), getElem!_pos l.toArray (j + 1 - 1) (by simp; omega)]
  rw [List.getElem?_eq_getElem h1] at hp; rw [List.getElem?_eq_getElem h2] at hq
  simp only [List.getElem_toArray, Nat.add_sub_cancel, Option.some.inj hp, Option.some.inj hq]
  by_cases e : q = p <;> simp [e]
theorem wrapS {x : Int} (h0 : 0 ≤ x) (h : x ≤ 99999) : IntKind.i64.wrap x = x := by rw [IntKind.wrap_i64]; omega
theorem wrapS' {x : Int} (h0 : 0 ≤ x) (h : x ≤ 99999) : wrap64 x = x := by unfold wrap64; omega
set_option maxRecDepth 100000 in
set_option maxHeartbeats 4000000 in
theorem compG {base g n cap : Nat} {L : List Value} {l : List Pr} (w : World) (hbg : base ≤ g) (hB : Box w g L 39) (hL : L.length = cap * 2) (hC : Cells L l) (hn : l.length = n) (hnc : n ≤ cap) (hi : n ≤ 65536) :
    Calls Try.prog 25 #[.slice (some ⟨g, 0, none⟩) n cap] w fun e w' => ∃ L', e = .returned (.slice (some ⟨g, 0, none⟩) (compact l).length cap) ∧ Box w' g L' 39 ∧ L'.length = cap * 2 ∧ Cells L' (compact l) ∧ ∀ w0, Below base w0 w → Below base w0 w' := by
  by_cases h2 : n < 2
  · have hall : compact l = l := compact_all l fun j hj => keeps_lt_one _ j (by omega)
    rw [hall, hn]
    have t2 : decide ((n : Int) < 2) = true := decide_eq_true (by omega)
    go_enter Try.func25, Try.ntmps25
    go_wp2
    go_ret
    exact ⟨L, rfl, hB, hL, hC, fun w0 h => h⟩
  have t2 : decide ((n : Int) < 2) = false := decide_eq_false (by omega)
  have HC := Lib.hid hC
  have hs0 := hB.lt
  go_enter Try.func25, Try.ntmps25
  go_wp2_with fail
  go_loopw [3] (fun i wr => ∃ j : Nat, j + 1 ≤ n ∧ i = .int .i64 ((j : Int) + 1) ∧ (∀ x, x < j + 1 → keeps l.toArray x = true) ∧ Box wr g L 39 ∧ Below base w wr) (fun i _ => n - (intOf i).toNat)
  case atStart => exact ⟨0, by omega, rfl, fun x hx => keeps_lt_one _ x (by omega), hB, Below.refl _ _⟩
  case round =>
    clear hB
    obtain ⟨j, hj, rfl, hkeep, hB, hW⟩ := hrel
    by_cases hlt : j + 1 < n
    · obtain ⟨p, hp⟩ : ∃ p, l[j]? = some p := ⟨_, List.getElem?_eq_getElem (by omega)⟩
      obtain ⟨q, hq⟩ : ∃ q, l[j + 1]? = some q := ⟨_, List.getElem?_eq_getElem (by omega)⟩
      have at1 := Lib.hid (HC.out.at hB hp); have at2 := Lib.hid (HC.out.at hB hq)
      have t1 : decide ((j : Int) + 1 < (n : Int)) = true := decide_eq_true (by omega)
      have hj1 : 0 ≤ (j : Int) + 1 ∧ (j : Int) + 1 < n := by omega
      have hj0 : 0 ≤ (j : Int) ∧ (j : Int) < n := by omega
      have wj2 : IntKind.i64.wrap ((j : Int) + 1 + 1) = (j : Int) + 1 + 1 := by rw [IntKind.wrap_i64]; omega
      have wj3 : wrap64 ((j : Int) + 1 + 1) = (j : Int) + 1 + 1 := by unfold wrap64; omega
      have wj : IntKind.i64.wrap (j : Int) = j := by rw [IntKind.wrap_i64]; omega
      have hbz := hB.lt
      have KI := Lib.hid (keeps_is hp hq)
      have HP := Lib.hid hp; have HQ := Lib.hid hq; have HK := Lib.hid hkeep
      clear hp hq hkeep
      iterate 4 go_step
      iterate 4 (with_reducible refine wpL_val (v := ?_) ?_ ?_ ?_; rotate_left; (· kernel_rfl); (· go_simp; try with_reducible rfl); conv => arg 5; simp only [Act.put, List.setIfInBounds_toArray, List.set_cons_zero, List.set_cons_succ])
      refine wpList_nil ?_
      iterate 9 go_step
      refine wp_region_ph [(10, .free [])] (by kernel_rfl) (by kernel_rfl) ?_
      refine Ph.belowd ?_
      simp only [List.drop_succ_cons, List.drop_zero, List.take_succ_cons, List.take_zero, Nat.reduceSub, Nat.sub_zero]
      iterate 3 (refine SeqO.val (v := ?_) (by rfl) (by rfl) (fun w1 hS => ?_) ?_; rotate_left; (· obtain ⟨hc, hcf⟩ := bcell hS; go_simp; try with_reducible rfl); simp only [Act.put, List.setIfInBounds_toArray, List.set_cons_zero, List.set_cons_succ])
      refine SeqO.at (l := [.int .i64 q.a, .int .i64 q.b]) (by rfl) (by rfl) hbz at2.out Try.underlying39 (by rfl) (by kernel_rfl) (by rfl) (by rfl) ?_
      simp only [Act.put, List.setIfInBounds_toArray, List.set_cons_zero, List.set_cons_succ]
      iterate 4 (refine SeqO.val (v := ?_) (by rfl) (by rfl) (fun w1 hS => ?_) ?_; rotate_left; (· obtain ⟨hc, hcf⟩ := bcell hS; go_simp; try with_reducible rfl); simp only [Act.put, List.setIfInBounds_toArray, List.set_cons_zero, List.set_cons_succ])
      refine SeqO.at (l := [.int .i64 p.a, .int .i64 p.b]) (by rfl) (by rfl) hbz at1.out Try.underlying39 (by rfl) (by kernel_rfl) (by rfl) (by rfl) ?_
      simp only [Act.put, List.setIfInBounds_toArray, List.set_cons_zero, List.set_cons_succ]
      refine SeqO.val (v := .bool (decide (q = p))) (by rfl) (by rfl) (fun w1 hS => ?_) ?_
      · skip
        exact run_bin_agg (by rfl) (by rfl) (by rfl) guardPa (prEql q p w1)
      simp only [Act.put, List.setIfInBounds_toArray, List.set_cons_zero, List.set_cons_succ]
      refine SeqO.nil0 fun w3 hS3 => ?_
      refine Ph.last ?_
      simp only [List.drop_succ_cons, List.drop_zero, List.take_succ_cons, List.take_zero, Nat.reduceSub, Nat.sub_zero]
      have hB := hB.step hS3
      have hW := hW.trans (hS3.mono (Nat.le_trans (Nat.le_trans hbg (Nat.le_of_lt hs0)) (by have := hW.size; omega)))
      refine wpList_nil ?_
      by_cases e : q = p
      · rw [decide_eq_true e]
        have hdup : keeps l.toArray (j + 1) = false := by rw [KI.out, decide_eq_true e]; rfl
        have C0 := Lib.hid (CompInv.start HK.out hdup)
        have hjn : j + 1 < n := hlt
        clear KI HP HQ HK at1 at2 e hdup wj wj2 wj3
        go_wp2_with fail
        go_loopw [3, 5] (fun kv i wr => ∃ (y kk : Nat) (dk : Array Pr) (L' : List Value), i = .int .i64 ((y : Int) + 1) ∧ kv = .int .i64 kk ∧ j + 1 + (y + 1) ≤ n ∧ CompInv l.toArray (j + 1 + (y + 1)) kk dk ∧ Box wr g L' 39 ∧ L'.length = cap * 2 ∧ Cells L' dk.toList ∧ Below base w wr) (fun _ i _ => n - (intOf i).toNat)
        case atStart => exact ⟨0, j + 1, l.toArray, L, rfl, by simp, by omega, C0.out, hB, hL, HC.out, hW⟩
        case round =>
          clear hB hW
          obtain ⟨y, kk, dk, L', rfl, rfl, hy, hI, hB, hL', hC', hW⟩ := hrel
          have hds : dk.size = n := by rw [hI.size]; simpa using hn
          have hklt := hI.lt
          by_cases h : j + 1 + (y + 1) < n
          · obtain ⟨p', hp⟩ : ∃ p, l[j + 1 + y]? = some p := ⟨_, List.getElem?_eq_getElem (by omega)⟩
            obtain ⟨q', hq⟩ : ∃ q, l[j + 1 + y + 1]? = some q := ⟨_, List.getElem?_eq_getElem (by omega)⟩
            have same : ∀ x r, kk ≤ x → l[x]? = some r → dk.toList[x]? = some r := fun x r hx hr => by
              have hxl := get_lt hr
              have hh := hI.high x hx
              rw [getElem!_pos dk x (by omega), getElem!_pos l.toArray x (by simpa using hxl)] at hh
              rw [List.getElem?_eq_getElem hxl] at hr
              rw [Array.getElem?_toList, Array.getElem?_eq_getElem (by omega), hh]
              simpa using hr
            have at1 := Lib.hid (show At' wr g ((j + 1) * 2 + y * 2) [.int .i64 p'.a, .int .i64 p'.b] from by have := hC'.at hB (same _ _ (by omega) hp); rwa [show (j + 1 + y) * 2 = (j + 1) * 2 + y * 2 by omega] at this)
            have at2 := Lib.hid (show At' wr g ((j + 1) * 2 + (y + 1) * 2) [.int .i64 q'.a, .int .i64 q'.b] from by have := hC'.at hB (same _ _ (by omega) hq); rwa [show (j + 1 + y + 1) * 2 = (j + 1) * 2 + (y + 1) * 2 by omega] at this)
            have D2 := Lib.hid (same _ _ (by omega) hq)
            have KI := Lib.hid (keeps_is hp hq)
            have hgq : l.toArray[j + 1 + (y + 1)]! = q' := by
              rw [← Nat.add_assoc, getElem!_pos l.toArray _ (by simp; omega)]
              have hlq := get_lt hq
              rw [List.getElem?_eq_getElem hlq] at hq
              rw [List.getElem_toArray]
              exact Option.some.inj hq
            have GQ := Lib.hid hgq
            have t3 : decide ((y : Int) + 1 < ((n - (j + 1) : Nat) : Int)) = true := decide_eq_true (by omega)
            have y1 : 0 ≤ (y : Int) + 1 ∧ (y : Int) + 1 < ((n - (j + 1) : Nat) : Int) := by omega
            have y0 : 0 ≤ (y : Int) ∧ (y : Int) < ((n - (j + 1) : Nat) : Int) := by omega
            have yl : (y : Int) ≤ 65536 ∧ 0 ≤ (y : Int) ∧ (y : Int) + 1 + 1 ≤ 99999 ∧ 0 ≤ (y : Int) + 1 + 1 ∧ (y : Int) ≤ 99999 := by omega
            have hy1 : j + 1 + (y + 1 + 1) ≤ n := by omega
            have hm1 : n - ((y : Int) + 1 + 1).toNat < n - ((y : Int) + 1).toNat := by omega
            have v2 : IntKind.i64.wrap ((y : Int) + 1 + 1) = (y : Int) + 1 + 1 := wrapS yl.2.2.2.1 yl.2.2.1
            have v3 : wrap64 ((y : Int) + 1 + 1) = (y : Int) + 1 + 1 := wrapS' yl.2.2.2.1 yl.2.2.1
            have v1 : IntKind.i64.wrap (y : Int) = y := wrapS yl.2.1 yl.2.2.2.2
            have hbz := hB.lt
            clear same hp hq hgq
            iterate 4 go_step
            iterate 4 (with_reducible refine wpL_val (v := ?_) ?_ ?_ ?_; rotate_left; (· kernel_rfl); (· go_simp; try with_reducible rfl); conv => arg 5; simp only [Act.put, List.setIfInBounds_toArray, List.set_cons_zero, List.set_cons_succ])
            refine wpList_nil ?_
            iterate 9 go_step
            refine wp_region_ph [(10, .free [])] (by kernel_rfl) (by kernel_rfl) ?_
            refine Ph.belowd ?_
            simp only [List.drop_succ_cons, List.drop_zero, List.take_succ_cons, List.take_zero, Nat.reduceSub, Nat.sub_zero]
            iterate 3 (refine SeqO.val (v := ?_) (by rfl) (by rfl) (fun w1 hS => ?_) ?_; rotate_left; (· obtain ⟨hc, hcf⟩ := bcell hS; go_simp; try with_reducible rfl); simp only [Act.put, List.setIfInBounds_toArray, List.set_cons_zero, List.set_cons_succ])
            refine SeqO.at (l := [.int .i64 q'.a, .int .i64 q'.b]) (by rfl) (by rfl) hbz at2.out Try.underlying39 (by rfl) (by kernel_rfl) (by rfl) (by rfl) ?_
            simp only [Act.put, List.setIfInBounds_toArray, List.set_cons_zero, List.set_cons_succ]
            iterate 4 (refine SeqO.val (v := ?_) (by rfl) (by rfl) (fun w1 hS => ?_) ?_; rotate_left; (· obtain ⟨hc, hcf⟩ := bcell hS; go_simp; try with_reducible rfl); simp only [Act.put, List.setIfInBounds_toArray, List.set_cons_zero, List.set_cons_succ])
            refine SeqO.at (l := [.int .i64 p'.a, .int .i64 p'.b]) (by rfl) (by rfl) hbz at1.out Try.underlying39 (by rfl) (by kernel_rfl) (by rfl) (by rfl) ?_
            simp only [Act.put, List.setIfInBounds_toArray, List.set_cons_zero, List.set_cons_succ]
            refine SeqO.val (v := .bool (!decide (q' = p'))) (by rfl) (by rfl) (fun w1 hS => ?_) ?_
            · skip
              exact run_bin_agg (by rfl) (by rfl) (by rfl) guardPa (prNeq q' p' w1)
            simp only [Act.put, List.setIfInBounds_toArray, List.set_cons_zero, List.set_cons_succ]
            refine SeqO.nil0 fun w3 hS3 => ?_
            refine Ph.last ?_
            simp only [List.drop_succ_cons, List.drop_zero, List.take_succ_cons, List.take_zero, Nat.reduceSub, Nat.sub_zero]
            have hB := hB.step hS3
            have hW := hW.trans (hS3.mono (Nat.le_trans (Nat.le_trans hbg (Nat.le_of_lt hs0)) (by have := hW.size; omega)))
            refine wpList_nil ?_
            by_cases e : q' = p'
            · rw [decide_eq_true e]
              have hdup : keeps l.toArray (j + 1 + (y + 1)) = false := by have := KI.out; rw [decide_eq_true e] at this; rw [← Nat.add_assoc]; exact this
              have I2 := Lib.hid (CompInv.skip hI hdup)
              clear KI at1 at2 e hdup hI
              go_wp2_with fail
              refine ⟨⟨y + 1, kk, dk, L', by simp, rfl, hy1, I2.out, hB, hL', hC', hW⟩, ?_⟩
              clear v1 v2 v3
              exact hm1
            · rw [decide_eq_false e]
              have hkp : keeps l.toArray (j + 1 + (y + 1)) = true := by have := KI.out; rw [decide_eq_false e] at this; rw [← Nat.add_assoc]; exact this
              have I2 := hI.keep (by simp; clear v1 v2 v3; omega) hkp
              rw [GQ.out, ← Array.toArray_toList (xs := dk.setIfInBounds kk q'), Array.toList_setIfInBounds] at I2
              have at2 := Lib.hid (show At' w3 g ((j + 1) * 2 + (y + 1) * 2) [.int .i64 q'.a, .int .i64 q'.b] from by have := hC'.at hB D2.out; rwa [show (j + 1 + y + 1) * 2 = (j + 1) * 2 + (y + 1) * 2 by clear v1 v2 v3; omega] at this)
              have I3 := Lib.hid I2
              have th : w3.there g (kk * 2) 2 := fun x hx => by
                refine ⟨?_, hB.free _⟩
                rw [hB.cell, List.getElem?_eq_getElem (by clear v1 v2 v3; omega)]; rfl
              have TH := Lib.hid th
              have k0 : 0 ≤ (kk : Int) ∧ (kk : Int) < (n : Int) := by clear v1 v2 v3; omega
              have k1 : 0 ≤ (kk : Int) + 1 ∧ (kk : Int) + 1 ≤ 99999 ∧ kk * 2 + 1 < L'.length := by clear v1 v2 v3; omega
              have v4 : IntKind.i64.wrap ((kk : Int) + 1) = (kk : Int) + 1 := wrapS k1.1 k1.2.1
              have v5 : wrap64 ((kk : Int) + 1) = (kk : Int) + 1 := wrapS' k1.1 k1.2.1
              have hkl := k1.2.2
              have hbg2 : base ≤ g := hbg
              clear KI at1 e hkp hI I2 D2 th k1
              iterate 5 go_step
              iterate 5 (with_reducible refine wpL_val (v := ?_) ?_ ?_ ?_; rotate_left; (· kernel_rfl); (· go_simp; try with_reducible rfl); conv => arg 5; simp only [Act.put, List.setIfInBounds_toArray, List.set_cons_zero, List.set_cons_succ])
              refine wpL_at (l := [.int .i64 q'.a, .int .i64 q'.b]) (by rfl) (by rfl) at2.out Try.underlying39 (by rfl) (by kernel_rfl) (by kernel_rfl) ?_
              conv => arg 5; simp only [Act.put, List.setIfInBounds_toArray, List.set_cons_zero, List.set_cons_succ]
              iterate 1 (with_reducible refine wpL_val (v := ?_) ?_ ?_ ?_; rotate_left; (· kernel_rfl); (· go_simp; try with_reducible rfl); conv => arg 5; simp only [Act.put, List.setIfInBounds_toArray, List.set_cons_zero, List.set_cons_succ])
              refine wpList_store_mid (by rfl) _ _ _ (by rfl) g (kk * 2) #[.int .i64 q'.a, .int .i64 q'.b] (by rfl) (by rfl) TH.out (by kernel_rfl) (by simp [Value.oneCell']) ?_
              conv => arg 5; simp only [Act.put, List.setIfInBounds_toArray, List.set_cons_zero, List.set_cons_succ]
              have hB2 := Lib.hid ((hB.set (kk * 2) (.int .i64 q'.a)).set (kk * 2 + 1) (.int .i64 q'.b))
              have hC2 := Lib.hid (Cells.set hC' q' hkl)
              have hW2 := Lib.hid (below_setCells hbg [.int .i64 q'.a, .int .i64 q'.b] (kk * 2) _ hW)
              clear hB hC' hW at2 TH GQ
              refine wpList_nil ?_
              go_wp2_with fail
              refine ⟨⟨y + 1, kk + 1, (dk.toList.set kk q').toArray, _, by simp, by simp, hy1, I3.out, hB2.out, by rw [List.length_set, List.length_set]; exact hL', hC2.out, hW2.out⟩, ?_⟩
              clear v1 v2 v3 v4 v5
              exact hm1
          · have hm : j + 1 + (y + 1) = n := by omega
            have t3 : decide ((y : Int) + 1 < ((n - (j + 1) : Nat) : Int)) = false := decide_eq_false (by omega)
            have k0 : 0 ≤ (kk : Int) ∧ (kk : Int) ≤ (n : Int) := by omega
            have k1 : kk < n ∧ kk < cap := by omega
            have hk1 := k1.2
            have kn : (compact l).length = kk ∧ ∀ x, x < kk → (compact l)[x]? = dk.toList[x]? := by
              have h1 := hI.len; have h2 := hI.low
              rw [hm] at h1 h2
              have e : compactUpTo l.toArray n = compact l := by unfold compact; simp [hn]
              rw [e] at h1 h2
              refine ⟨h1, fun x hx => ?_⟩
              rw [h2 x hx, getElem!_pos dk x (by omega), Array.getElem?_toList, Array.getElem?_eq_getElem (by omega)]
            obtain ⟨vs, hvs⟩ : ∃ vs, ∀ ty, (Builtin.clear_ #[22] ty #[.slice (some ⟨g, kk * 2, none⟩) (n - kk) (cap - kk)]).run Try.prog wr = .ok (.tuple #[]) (wr.setCells g (kk * 2) vs) := by
              refine run_clear2 wr g (kk * 2) (n - kk) (cap - kk) (by omega) (fun x hx => ?_) (fun x _ => hB.free _)
              rw [hB.cell, List.getElem?_eq_getElem (by omega)]; rfl
            have hB2 := Lib.hid (box_setCells vs (kk * 2) wr L' hB)
            have hW2 := Lib.hid (below_setCells hbg vs (kk * 2) _ hW)
            have KN := Lib.hid kn
            clear hI kn hW
            go_wp2_with fail
            go_ret
            obtain ⟨L2, hb2, hl2, hx2⟩ := hB2.out
            refine ⟨L2, by rw [KN.out.1]; rfl, hb2, by rw [hl2]; exact hL', fun x p hx => ?_, fun w0 h => h.trans hW2.out⟩
            have hxk : x < kk := by have := get_lt hx; rw [KN.out.1] at this; exact this
            rw [KN.out.2 x hxk] at hx
            obtain ⟨h1, h2⟩ := hC' x p hx
            exact ⟨by rw [hx2 _ (by omega)]; exact h1, by rw [hx2 _ (by omega)]; exact h2⟩
      · rw [decide_eq_false e]
        have hk : ∀ x, x < j + 1 + 1 → keeps l.toArray x = true := fun x hx => by
          rcases Nat.lt_or_ge x (j + 1) with h | h
          · exact HK.out x h
          · obtain rfl : x = j + 1 := by omega
            rw [KI.out, decide_eq_false e]; rfl
        have HK2 := Lib.hid hk
        clear KI HP HQ HK at1 at2 e hk
        go_wp2
        exact ⟨⟨j + 1, by omega, by simp, HK2.out, hB, hW⟩, by simp [intOf]; omega⟩
    · have t1 : decide ((j : Int) + 1 < (n : Int)) = false := decide_eq_false (by omega)
      have hall : compact l = l := compact_all l fun x hx => hkeep x (by omega)
      have HA := Lib.hid hall
      clear hkeep hall
      go_wp2
      go_ret
      exact ⟨L, by rw [HA.out, hn]; rfl, hB, hL, by rw [HA.out]; exact HC.out, fun w0 h => h.trans hW⟩
end QCm
end Go.Proofs.Ytocelepohkbooaa
