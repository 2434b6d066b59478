/- A number's bound, in the program's tree and in the document's: the walks. Condition: the tree is there, the list as told. A bound set in the document's tree. Condition: the tree is as told. What is found in a tree, plainly. No condition. -/
import Derived.Test.YtbcjnckejkjfeaaGreatQah
import Derived.Test.YtbcjnckejkjfeaaGreatQao
import Derived.Laws.Rows
import Derived.Test.YtbcjnckejkjfeaaGreatQam
import Derived.Test.YtbcjnckejkjfeaaGreatQan
namespace Go.Proofs.YtbcjnckejkjfeaaGreat
set_option linter.unusedVariables false
set_option linter.unusedSimpArgs false
open Go.RowKit Go.NP
namespace DBo
open TrP TrW TrC TrA TrX QVl QVm TrE TrI TAs TPu DSl DPl
theorem results_two {P : Program} {fn : Func} {p t : Tmp} {ty : TypeId} (h : fn.results = #[.cell p ty, .tmp t]) (tmps : Array Value) (w : World) (g : Nat) (T : TypeId) (cs : Array Value) (fr : Nat × Nat) (d : TypeDesc)
    (hp : tmps.getD p undef = .pointer (some ⟨g, 0, none⟩)) (hg : w.heap[g]? = some (.cells cs T fr))
    (hu : P.underlying ty = some d) (hd : (match d with | .struct _ | .array _ _ => true | _ => false) = true) (hi : (P.info? ty).map (·.size) = some cs.size) :
    (results fn tmps).run P w = .ok (.tuple #[.agg cs, tmps.getD t undef]) w := by
  have hp' : tmps[p]?.getD undef = .pointer (some ⟨g, 0, none⟩) := by simpa using hp
  simp [results, h, hp', asAddr, run_loadVar_row w g T ty cs fr d hg hu hd hi]
def bndOf (L : List En) (q : Int) : Bd := ((get L q).map (·.b)).getD bzero
theorem at_in {L : List En} {q : Int} (hr : Rise L) (hi : isIn L q = true) : ∃ e, L[(lo L q).length]? = some e ∧ e.n = q ∧ get L q = some e := by
  obtain ⟨e, r, h1, h2, h3, _⟩ := hi_in hr hi
  exact ⟨e, by rw [hi_at, h1]; rfl, h2, get_of hr h3 h2⟩
theorem EAt.b {w : World} {b off k : Nat} {l : List En} {e : En} (h : EAt w b off l) (hk : l[k]? = some e) : At' w b (off + k * 13 + 1) [.int .i64 e.b.lo.x, .int .i64 e.b.lo.y, .int .i64 e.b.lo.z, .int .i64 e.b.hi.x, .int .i64 e.b.hi.y, .int .i64 e.b.hi.z] := fun j v hv => by
  have := h k e hk (1 + j) v (by
    have hj : j < 6 := by
      rcases Nat.lt_or_ge j 6 with h | h
      · exact h
      · rw [List.getElem?_eq_none (by exact h)] at hv; cases hv
    rw [← hv]
    rcases (by omega : j = 0 ∨ j = 1 ∨ j = 2 ∨ j = 3 ∨ j = 4 ∨ j = 5) with rfl | rfl | rfl | rfl | rfl | rfl <;> rfl)
  rw [show off + k * 13 + 1 + j = off + k * 13 + (1 + j) by omega]; exact this
set_option maxRecDepth 100000 in
set_option maxHeartbeats 4000000 in
theorem rboundC {A : Option Addr} {n : Nat} (cap : Nat) (mg q : Int) {L : List En} (w : World) (h : SlE w A n L) (hr : Rise L) (hn : n ≤ 100000) : RetB Tryz.prog 27 #[.agg #[.int .i64 mg, .slice A n cap], .int .i64 q] w (.tuple #[.agg #[.int .i64 (bndOf L q).lo.x, .int .i64 (bndOf L q).lo.y, .int .i64 (bndOf L q).lo.z, .int .i64 (bndOf L q).hi.x, .int .i64 (bndOf L q).hi.y, .int .i64 (bndOf L q).hi.z], .bool (isIn L q)]) := by
  have hln := h.1
  have hb0 : Below w.heap.size w (w.alloc (.cells #[.int .i64 mg, .slice A n cap] 30)) := (Below.refl _ _).alloc (Nat.le_refl _) _
  have hb : Below w.heap.size w ((w.alloc (.cells #[.int .i64 mg, .slice A n cap] 30)).alloc (.cells #[.int .i64 0, .int .i64 0, .int .i64 0, .int .i64 0, .int .i64 0, .int .i64 0] 38)) := hb0.alloc (by simp) _
  have hT : Box ((w.alloc (.cells #[.int .i64 mg, .slice A n cap] 30)).alloc (.cells #[.int .i64 0, .int .i64 0, .int .i64 0, .int .i64 0, .int .i64 0, .int .i64 0] 38)) w.heap.size [.int .i64 mg, .slice A n cap] 30 := (Box.new rfl).step ((Below.refl _ _).alloc (Nat.le_refl _) _)
  have hZ : Box ((w.alloc (.cells #[.int .i64 mg, .slice A n cap] 30)).alloc (.cells #[.int .i64 0, .int .i64 0, .int .i64 0, .int .i64 0, .int .i64 0, .int .i64 0] 38)) (w.heap.size + 1) [.int .i64 0, .int .i64 0, .int .i64 0, .int .i64 0, .int .i64 0, .int .i64 0] 38 := by
    have := Box.new (w := w.alloc (.cells #[.int .i64 mg, .slice A n cap] 30)) (l := [.int .i64 0, .int .i64 0, .int .i64 0, .int .i64 0, .int .i64 0, .int .i64 0]) (T := 38) rfl
    rwa [show (w.alloc (.cells #[.int .i64 mg, .slice A n cap] 30)).heap.size = w.heap.size + 1 by simp] at this
  have H2 := Lib.hid (h.step hb)
  have HP := Lib.hid (placeC cap mg q _ H2.out hr hn)
  have HI := Lib.hid (fun (hi : isIn L q = true) => at_in hr hi)
  have hz := lo_len L q
  obtain ⟨z, hze⟩ : ∃ z, (lo L q).length = z := ⟨_, rfl⟩
  rw [hze] at HP HI hz
  clear h hb0 hze
  cases hc : isIn L q
  · rw [hc] at HP
    have e0 : bndOf L q = bzero := by unfold bndOf; rw [get_none.2 hc]; rfl
    rw [e0]
    clear HI e0 hc
    unfold RetB
    go_enter Tryz.func27, Tryz.ntmps27
    go_wp2_with (refine wpL_load (l := [.int .i64 mg, .slice A n cap]) (by rfl) (by rfl) hT Tryz.underlying30 (by rfl) (by kernel_rfl) (by kernel_rfl) ?_; (conv => arg 5; simp only [Act.put, List.setIfInBounds_toArray, List.set_cons_zero, List.set_cons_succ]))
    refine HP.out.mono ?_
    rintro e w2 ⟨rfl, hb2⟩
    have hZ2 := hZ.step hb2
    have hW2 := hb.trans (hb2.mono hb.size)
    clear hT hZ hb hb2 HP H2
    go_wp2_with (refine wpL_store (cs := [.int .i64 0, .int .i64 0, .int .i64 0, .int .i64 0, .int .i64 0, .int .i64 0]) (by rfl) (by rfl) (by rfl) hZ2 (by kernel_rfl) (by rfl) (by simp [Value.oneCell']) (by kernel_rfl) ?_; (conv => arg 5; simp only [Act.put, List.setIfInBounds_toArray, List.set_cons_zero, List.set_cons_succ]))
    exact bodyPost_ret (v := .tuple #[.agg #[.int .i64 bzero.lo.x, .int .i64 bzero.lo.y, .int .i64 bzero.lo.z, .int .i64 bzero.hi.x, .int .i64 bzero.hi.y, .int .i64 bzero.hi.z], .bool false]) (results_two Tryz.results27 _ _ _ _ _ _ _ (by rfl) (hZ2.row _) Tryz.underlying38 (by rfl) (by kernel_rfl)) rfl ⟨rfl, below_row hW2 (by omega) _⟩
  · rw [hc] at HP
    obtain ⟨e, he, hen, hg⟩ := HI.out hc
    have e0 : bndOf L q = e.b := by unfold bndOf; rw [hg]; rfl
    rw [e0]
    have HE := Lib.hid he
    have zn : z < L.length := get_lt he
    have z0 : 0 ≤ (z : Int) ∧ (z : Int) < (n : Int) := by omega
    clear HI e0 hc he hen hg
    obtain ⟨b, off, rfl, hbl, hat⟩ := H2.out.2 (by omega)
    have HAT := Lib.hid hat
    clear hat
    unfold RetB
    go_enter Tryz.func27, Tryz.ntmps27
    go_wp2_with (refine wpL_load (l := [.int .i64 mg, .slice (some ⟨b, off, none⟩) n cap]) (by rfl) (by rfl) hT Tryz.underlying30 (by rfl) (by kernel_rfl) (by kernel_rfl) ?_; (conv => arg 5; simp only [Act.put, List.setIfInBounds_toArray, List.set_cons_zero, List.set_cons_succ]))
    refine HP.out.mono ?_
    rintro e1 w2 ⟨rfl, hb2⟩
    have hZ2 := hZ.step hb2
    have ct := (hT.step hb2).cell 1
    simp only [List.getElem?_cons_zero, List.getElem?_cons_succ] at ct
    have hgw : w.heap.size < w2.heap.size := (hT.step hb2).lt
    have hW2 := hb.trans (hb2.mono hb.size)
    have AB := Lib.hid (EAt.b (HAT.out.step hbl hb2) HE.out)
    clear hT hZ hb hb2 HP H2 hbl
    go_wp2_with (first | (refine wpL_at (l := [.int .i64 e.b.lo.x, .int .i64 e.b.lo.y, .int .i64 e.b.lo.z, .int .i64 e.b.hi.x, .int .i64 e.b.hi.y, .int .i64 e.b.hi.z]) (by rfl) (by rfl) AB.out Tryz.underlying38 (by rfl) (by kernel_rfl) (by kernel_rfl) ?_; (conv => arg 5; simp only [Act.put, List.setIfInBounds_toArray, List.set_cons_zero, List.set_cons_succ])) | (refine wpL_store (cs := [.int .i64 e.b.lo.x, .int .i64 e.b.lo.y, .int .i64 e.b.lo.z, .int .i64 e.b.hi.x, .int .i64 e.b.hi.y, .int .i64 e.b.hi.z]) (by rfl) (by rfl) (by rfl) hZ2 (by kernel_rfl) (by rfl) (by simp [Value.oneCell']) (by kernel_rfl) ?_; (conv => arg 5; simp only [Act.put, List.setIfInBounds_toArray, List.set_cons_zero, List.set_cons_succ])))
    exact bodyPost_ret (v := .tuple #[.agg #[.int .i64 e.b.lo.x, .int .i64 e.b.lo.y, .int .i64 e.b.lo.z, .int .i64 e.b.hi.x, .int .i64 e.b.hi.y, .int .i64 e.b.hi.z], .bool true]) (results_two Tryz.results27 _ _ _ _ _ _ _ (by rfl) (hZ2.row _) Tryz.underlying38 (by rfl) (by kernel_rfl)) rfl ⟨rfl, below_row hW2 (by omega) _⟩
set_option maxRecDepth 100000 in
set_option maxHeartbeats 4000000 in
theorem boundC {p K : Nat} {mg q : Int} {L : List En} {S : Nat → Prop} (w : World) (h : TI w p mg L S K) (hq : wfI q) : RetB Tryz.prog 26 #[.pointer (some ⟨p, 0, none⟩), .int .i64 q] w (.tuple #[.agg #[.int .i64 (bndOf L q).lo.x, .int .i64 (bndOf L q).lo.y, .int .i64 (bndOf L q).lo.z, .int .i64 (bndOf L q).hi.x, .int .i64 (bndOf L q).hi.y, .int .i64 (bndOf L q).hi.z], .bool (isIn L q)]) := by
  obtain ⟨T, F, al, lv, b, c, pl, h, rfl⟩ := h
  obtain rfl : T.p = p := h.p_
  have hb : Below w.heap.size w (w.alloc (.cells #[.int .i64 0, .int .i64 0, .int .i64 0, .int .i64 0, .int .i64 0, .int .i64 0] 38)) := (Below.refl _ _).alloc (Nat.le_refl _) _
  have hZ : Box (w.alloc (.cells #[.int .i64 0, .int .i64 0, .int .i64 0, .int .i64 0, .int .i64 0, .int .i64 0] 38)) w.heap.size [.int .i64 0, .int .i64 0, .int .i64 0, .int .i64 0, .int .i64 0, .int .i64 0] 38 := Box.new rfl
  have h1 := h.step hb
  have hp1 := h1.lt
  have hv1 := h1.ts.tx.vm
  have c5 : (w.alloc (.cells #[.int .i64 0, .int .i64 0, .int .i64 0, .int .i64 0, .int .i64 0, .int .i64 0] 38)).cell? ⟨T.p, 5, none⟩ = some (.map (some b)) := by have := TO.mpc h1.ts.tx.to; rw [h1.ts.tx.mp] at this; exact this
  have l1 := hv1.look_ok hq Tryz.underlying57 (zI _)
  unfold RetB
  cases hc : isIn L q
  · have hn := h1.look_out hc
    have e0 : bndOf L q = bzero := by unfold bndOf; rw [get_none.2 hc]; rfl
    rw [e0]
    rw [im_some, im_no hn, hn] at l1
    simp only [Option.isSome_none] at l1
    clear h h1 hv1 e0 hn hc
    go_enter Tryz.func26, Tryz.ntmps26
    go_wp2_with (refine wpL_store (cs := [.int .i64 0, .int .i64 0, .int .i64 0, .int .i64 0, .int .i64 0, .int .i64 0]) (by rfl) (by rfl) (by rfl) hZ (by kernel_rfl) (by rfl) (by simp [Value.oneCell']) (by kernel_rfl) ?_; (conv => arg 5; simp only [Act.put, List.setIfInBounds_toArray, List.set_cons_zero, List.set_cons_succ]))
    exact bodyPost_ret (v := .tuple #[.agg #[.int .i64 bzero.lo.x, .int .i64 bzero.lo.y, .int .i64 bzero.lo.z, .int .i64 bzero.hi.x, .int .i64 bzero.hi.y, .int .i64 bzero.hi.z], .bool false]) (results_two Tryz.results26 _ _ _ _ _ _ _ (by rfl) (hZ.row _) Tryz.underlying38 (by rfl) (by kernel_rfl)) rfl ⟨rfl, below_row hb (Nat.le_refl _) _⟩
  · obtain ⟨a, hpa, hal, han, haN, hget⟩ := h1.look_in hc
    have e0 : bndOf L q = (T.m a).b := by unfold bndOf; rw [hget]; rfl
    rw [e0]
    rw [im_some, im_at hpa, hpa] at l1
    simp only [Option.isSome_some] at l1
    have hN : TN (w.alloc (.cells #[.int .i64 0, .int .i64 0, .int .i64 0, .int .i64 0, .int .i64 0, .int .i64 0] 38)) T := by
      rcases h1.ts.tx.to with ⟨hN0, _⟩ | hN
      · omega
      · exact hN
    have c2 := hN.nodes
    have AB : At' (w.alloc (.cells #[.int .i64 0, .int .i64 0, .int .i64 0, .int .i64 0, .int .i64 0, .int .i64 0] 38)) T.g (a * 17 + 6) [.int .i64 (T.m a).b.lo.x, .int .i64 (T.m a).b.lo.y, .int .i64 (T.m a).b.lo.z, .int .i64 (T.m a).b.hi.x, .int .i64 (T.m a).b.hi.y, .int .i64 (T.m a).b.hi.z] := fun j v hv => by
      have := hN.cell haN (j := 6 + j) (v := v) (by
        have hj : j < 6 := by
          rcases Nat.lt_or_ge j 6 with h | h
          · exact h
          · rw [List.getElem?_eq_none (by exact h)] at hv; cases hv
        rw [← hv]
        rcases (by omega : j = 0 ∨ j = 1 ∨ j = 2 ∨ j = 3 ∨ j = 4 ∨ j = 5) with rfl | rfl | rfl | rfl | rfl | rfl <;> rfl)
      rw [show a * 17 + 6 + j = a * 17 + (6 + j) by omega]; exact this
    have a0 : 0 ≤ (a : Int) ∧ (a : Int) < (T.N : Int) := by omega
    obtain ⟨y, hy⟩ : ∃ y, (T.m a).b = y := ⟨_, rfl⟩
    rw [hy] at AB ⊢
    have HA := Lib.hid AB
    clear h h1 hv1 e0 hc AB hpa hal han haN hget hN hy
    go_enter Tryz.func26, Tryz.ntmps26
    go_wp2_with (first | (refine wpL_at (l := [.int .i64 y.lo.x, .int .i64 y.lo.y, .int .i64 y.lo.z, .int .i64 y.hi.x, .int .i64 y.hi.y, .int .i64 y.hi.z]) (by rfl) (by rfl) HA.out Tryz.underlying38 (by rfl) (by kernel_rfl) (by kernel_rfl) ?_; (conv => arg 5; simp only [Act.put, List.setIfInBounds_toArray, List.set_cons_zero, List.set_cons_succ])) | (refine wpL_store (cs := [.int .i64 y.lo.x, .int .i64 y.lo.y, .int .i64 y.lo.z, .int .i64 y.hi.x, .int .i64 y.hi.y, .int .i64 y.hi.z]) (by rfl) (by rfl) (by rfl) hZ (by kernel_rfl) (by rfl) (by simp [Value.oneCell']) (by kernel_rfl) ?_; (conv => arg 5; simp only [Act.put, List.setIfInBounds_toArray, List.set_cons_zero, List.set_cons_succ])))
    exact bodyPost_ret (v := .tuple #[.agg #[.int .i64 y.lo.x, .int .i64 y.lo.y, .int .i64 y.lo.z, .int .i64 y.hi.x, .int .i64 y.hi.y, .int .i64 y.hi.z], .bool true]) (results_two Tryz.results26 _ _ _ _ _ _ _ (by rfl) (hZ.row _) Tryz.underlying38 (by rfl) (by kernel_rfl)) rfl ⟨rfl, below_row hb (Nat.le_refl _) _⟩
end DBo
end Go.Proofs.YtbcjnckejkjfeaaGreat
namespace Go.Proofs.YtbcjnckejkjfeaaGreat
set_option linter.unusedVariables false
set_option linter.unusedSimpArgs false
open Go.RowKit Go.NP
namespace DSe
open TrW TrC TrA TrX TrE TSt DSl DPl DTr DDr DSl2
theorem cf43 (args : Array Value) (w1 : World) : (callFunc 43 args).run Tryz.prog w1 = .ok (.enter 43 args) w1 := enters Tryz.func43 (by kernel_rfl) (by kernel_rfl) args w1
theorem cf44 (args : Array Value) (w1 : World) : (callFunc 44 args).run Tryz.prog w1 = .ok (.enter 44 args) w1 := enters Tryz.func44 (by kernel_rfl) (by kernel_rfl) args w1
set_option maxRecDepth 100000 in
set_option maxHeartbeats 4000000 in
theorem rseRng {t : Nat} {q : Int} {x : Bd} (w : World) (h : ¬ (1 ≤ q ∧ q ≤ 4096)) : RetB Tryz.prog 21 #[.pointer (some ⟨t, 0, none⟩), .int .i64 q, .agg #[.int .i64 x.lo.x, .int .i64 x.lo.y, .int .i64 x.lo.z, .int .i64 x.hi.x, .int .i64 x.hi.y, .int .i64 x.hi.z]] w (.tuple #[.bool false, .int .i64 2]) := by
  have hb : Below w.heap.size w (w.alloc (.cells #[.int .i64 x.lo.x, .int .i64 x.lo.y, .int .i64 x.lo.z, .int .i64 x.hi.x, .int .i64 x.hi.y, .int .i64 x.hi.z] 38)) := (Below.refl _ _).alloc (Nat.le_refl _) _
  have hX : Box (w.alloc (.cells #[.int .i64 x.lo.x, .int .i64 x.lo.y, .int .i64 x.lo.z, .int .i64 x.hi.x, .int .i64 x.hi.y, .int .i64 x.hi.z] 38)) w.heap.size [.int .i64 x.lo.x, .int .i64 x.lo.y, .int .i64 x.lo.z, .int .i64 x.hi.x, .int .i64 x.hi.y, .int .i64 x.hi.z] 38 := Box.new rfl
  unfold RetB
  by_cases h1 : q < 1
  · have t1 : decide (q < 1) = true := decide_eq_true h1
    clear h h1
    go_enter Tryz.func21, Tryz.ntmps21
    go_wp2_with fail
    exact bodyPost_ret (v := .tuple #[.bool false, .int .i64 2]) (by simp [results, Tryz.results21, go_sem]) rfl ⟨rfl, hb⟩
  · have t1 : decide (q < 1) = false := decide_eq_false h1
    have t2 : decide (4096 < q) = true := decide_eq_true (by omega)
    clear h h1
    go_enter Tryz.func21, Tryz.ntmps21
    go_wp2_with fail
    exact bodyPost_ret (v := .tuple #[.bool false, .int .i64 2]) (by simp [results, Tryz.results21, go_sem]) rfl ⟨rfl, hb⟩
set_option maxRecDepth 100000 in
set_option maxHeartbeats 4000000 in
theorem rseBad {t : Nat} {q : Int} {x : Bd} (w : World) (h : 1 ≤ q ∧ q ≤ 4096) (hx : ¬ x.ok) : RetB Tryz.prog 21 #[.pointer (some ⟨t, 0, none⟩), .int .i64 q, .agg #[.int .i64 x.lo.x, .int .i64 x.lo.y, .int .i64 x.lo.z, .int .i64 x.hi.x, .int .i64 x.hi.y, .int .i64 x.hi.z]] w (.tuple #[.bool false, .int .i64 7]) := by
  have hb : Below w.heap.size w (w.alloc (.cells #[.int .i64 x.lo.x, .int .i64 x.lo.y, .int .i64 x.lo.z, .int .i64 x.hi.x, .int .i64 x.hi.y, .int .i64 x.hi.z] 38)) := (Below.refl _ _).alloc (Nat.le_refl _) _
  have hX : Box (w.alloc (.cells #[.int .i64 x.lo.x, .int .i64 x.lo.y, .int .i64 x.lo.z, .int .i64 x.hi.x, .int .i64 x.hi.y, .int .i64 x.hi.z] 38)) w.heap.size [.int .i64 x.lo.x, .int .i64 x.lo.y, .int .i64 x.lo.z, .int .i64 x.hi.x, .int .i64 x.hi.y, .int .i64 x.hi.z] 38 := Box.new rfl
  have t1 : decide (q < 1) = false := decide_eq_false (by omega)
  have t2 : decide (4096 < q) = false := decide_eq_false (by omega)
  have HC := Lib.hid (fun u => (rbdC x u).eq (v' := .int .i64 7) (by unfold errIf; rw [if_neg hx]))
  clear h hx
  unfold RetB
  go_enter Tryz.func21, Tryz.ntmps21
  go_wp2_with (refine wpL_load (l := [.int .i64 x.lo.x, .int .i64 x.lo.y, .int .i64 x.lo.z, .int .i64 x.hi.x, .int .i64 x.hi.y, .int .i64 x.hi.z]) (by rfl) (by rfl) hX Tryz.underlying38 (by rfl) (by kernel_rfl) (by kernel_rfl) ?_; (conv => arg 5; simp only [Act.put, List.setIfInBounds_toArray, List.set_cons_zero, List.set_cons_succ]))
  refine (HC.out _).mono ?_
  rintro e w2 ⟨rfl, hb2⟩
  go_wp2_with fail
  exact bodyPost_ret (v := .tuple #[.bool false, .int .i64 7]) (by simp [results, Tryz.results21, go_sem]) rfl ⟨rfl, hb.trans (hb2.mono hb.size)⟩
set_option maxRecDepth 100000 in
set_option maxHeartbeats 4000000 in
theorem rseNo {t : Nat} {mg q : Int} {x : Bd} {L : List En} (w : World) {P : Nat → Prop} (h : DT w t mg L P) (hP : ∀ k, w.heap.size ≤ k → P k) (hr : Rise L) (hl : L.length ≤ 1000) (hq : 1 ≤ q ∧ q ≤ 4096) (hx : x.ok) (hc : isIn L q = false) : RetB Tryz.prog 21 #[.pointer (some ⟨t, 0, none⟩), .int .i64 q, .agg #[.int .i64 x.lo.x, .int .i64 x.lo.y, .int .i64 x.lo.z, .int .i64 x.hi.x, .int .i64 x.hi.y, .int .i64 x.hi.z]] w (.tuple #[.bool false, .int .i64 4]) := by
  have hb : Below w.heap.size w (w.alloc (.cells #[.int .i64 x.lo.x, .int .i64 x.lo.y, .int .i64 x.lo.z, .int .i64 x.hi.x, .int .i64 x.hi.y, .int .i64 x.hi.z] 38)) := (Below.refl _ _).alloc (Nat.le_refl _) _
  have hX : Box (w.alloc (.cells #[.int .i64 x.lo.x, .int .i64 x.lo.y, .int .i64 x.lo.z, .int .i64 x.hi.x, .int .i64 x.hi.y, .int .i64 x.hi.z] 38)) w.heap.size [.int .i64 x.lo.x, .int .i64 x.lo.y, .int .i64 x.lo.z, .int .i64 x.hi.x, .int .i64 x.hi.y, .int .i64 x.hi.z] 38 := Box.new rfl
  have t1 : decide (q < 1) = false := decide_eq_false (by omega)
  have t2 : decide (4096 < q) = false := decide_eq_false (by omega)
  obtain ⟨A, cap, h, hA⟩ := h
  clear hA hP
  have HC := Lib.hid (fun u => (rbdC x u).eq (v' := .int .i64 0) (by unfold errIf; rw [if_pos hx]))
  have H1 := h.step hb
  have lt0 := H1.bx.lt
  have htw := h.bx.lt
  have HR := Lib.hid hr
  have HCC := Lib.hid hc
  clear hx hq h hr hc
  unfold RetB
  go_enter Tryz.func21, Tryz.ntmps21
  go_wp2_with (refine wpL_load (l := [.int .i64 x.lo.x, .int .i64 x.lo.y, .int .i64 x.lo.z, .int .i64 x.hi.x, .int .i64 x.hi.y, .int .i64 x.hi.z]) (by rfl) (by rfl) hX Tryz.underlying38 (by rfl) (by kernel_rfl) (by kernel_rfl) ?_; (conv => arg 5; simp only [Act.put, List.setIfInBounds_toArray, List.set_cons_zero, List.set_cons_succ]))
  refine (HC.out _).mono ?_
  rintro e w2 ⟨rfl, hb2⟩
  have H2 := H1.step hb2
  have hbx2 := H2.bx
  have lt2 := hbx2.lt
  have HP := Lib.hid (placeC cap mg q w2 H2.sl HR.out (by omega))
  rw [HCC.out] at HP
  have HW := Lib.hid (hb.trans (hb2.mono hb.size))
  clear H1 H2 hb hb2 hX lt0
  go_wp2_with (refine wpL_load (l := [.int .i64 mg, .slice A L.length cap]) (by rfl) (by rfl) hbx2 Tryz.underlying30 (by rfl) (by kernel_rfl) (by kernel_rfl) ?_; (conv => arg 5; simp only [Act.put, List.setIfInBounds_toArray, List.set_cons_zero, List.set_cons_succ]))
  refine HP.out.mono ?_
  rintro e w3 ⟨rfl, hb3⟩
  clear hbx2 HP
  go_wp2_with fail
  exact bodyPost_ret (v := .tuple #[.bool false, .int .i64 4]) (by simp [results, Tryz.results21, go_sem]) rfl ⟨rfl, HW.out.trans (hb3.mono HW.out.size)⟩
set_option maxRecDepth 100000 in
set_option maxHeartbeats 4000000 in
theorem rseIn {t : Nat} {mg q : Int} {x : Bd} {L : List En} (w : World) {P : Nat → Prop} (h : DT w t mg L P) (hP : ∀ k, w.heap.size ≤ k → P k) (hr : Rise L) (hl : L.length ≤ 1000) (hq : 1 ≤ q ∧ q ≤ 4096) (hx : x.ok) (hc : isIn L q = true) :
    Calls Tryz.prog 21 #[.pointer (some ⟨t, 0, none⟩), .int .i64 q, .agg #[.int .i64 x.lo.x, .int .i64 x.lo.y, .int .i64 x.lo.z, .int .i64 x.hi.x, .int .i64 x.hi.y, .int .i64 x.hi.z]] w fun e w' => e = .returned (.tuple #[.bool (!holds (fatOf L q) x), .int .i64 0]) ∧ DT w' t mg (TrE.upd L ⟨q, x, if holds (fatOf L q) x then fatOf L q else grow x mg⟩) P ∧ Fr w w' fun k => k = t := by
  have hb : Below w.heap.size w (w.alloc (.cells #[.int .i64 x.lo.x, .int .i64 x.lo.y, .int .i64 x.lo.z, .int .i64 x.hi.x, .int .i64 x.hi.y, .int .i64 x.hi.z] 38)) := (Below.refl _ _).alloc (Nat.le_refl _) _
  have hX : Box (w.alloc (.cells #[.int .i64 x.lo.x, .int .i64 x.lo.y, .int .i64 x.lo.z, .int .i64 x.hi.x, .int .i64 x.hi.y, .int .i64 x.hi.z] 38)) w.heap.size [.int .i64 x.lo.x, .int .i64 x.lo.y, .int .i64 x.lo.z, .int .i64 x.hi.x, .int .i64 x.hi.y, .int .i64 x.hi.z] 38 := Box.new rfl
  have t1 : decide (q < 1) = false := decide_eq_false (by omega)
  have t2 : decide (4096 < q) = false := decide_eq_false (by omega)
  obtain ⟨A, cap, h, hA⟩ := h
  have HPP := Lib.hid hP
  clear hA hP
  obtain ⟨e0, he0, hen, hge⟩ := DBo.at_in hr hc
  have hzl := get_lt he0
  obtain ⟨f, hf⟩ : ∃ f, fatOf L q = f := ⟨_, rfl⟩
  have hef : e0.fat = f := by rw [← hf]; unfold fatOf; rw [hge]; rfl
  have HU := Lib.hid (fun (f' : Bd) => set_upd (e' := ⟨q, x, f'⟩) hr hc he0 rfl)
  rw [hf]
  obtain ⟨hv, hh⟩ : ∃ hv, holds f x = hv := ⟨_, rfl⟩
  rw [hh]
  have HH := Lib.hid hh
  have he9 : ({ e0 with b := x } : En) = ⟨q, x, f⟩ := by cases e0; simp_all
  clear hh
  have hbA : A ≠ none := by
    intro e; obtain ⟨_, _, e', _⟩ := h.sl.2 (by omega); rw [e] at e'; cases e'
  obtain ⟨a, rfl⟩ : ∃ a, A = some a := by cases A with
    | none => exact absurd rfl hbA
    | some a => exact ⟨a, rfl⟩
  have HE0 := Lib.hid he0
  have HC := Lib.hid (fun u => (rbdC x u).eq (v' := .int .i64 0) (by unfold errIf; rw [if_pos hx]))
  have H1 := h.step hb
  have lt0 := H1.bx.lt
  have htw := h.bx.lt
  have HR := Lib.hid hr
  have HCC := Lib.hid hc
  clear hx hq h hr hc
  clear hge hbA he0 hf
  go_enter Tryz.func21, Tryz.ntmps21
  go_wp2_with (refine wpL_load (l := [.int .i64 x.lo.x, .int .i64 x.lo.y, .int .i64 x.lo.z, .int .i64 x.hi.x, .int .i64 x.hi.y, .int .i64 x.hi.z]) (by rfl) (by rfl) hX Tryz.underlying38 (by rfl) (by kernel_rfl) (by kernel_rfl) ?_; (conv => arg 5; simp only [Act.put, List.setIfInBounds_toArray, List.set_cons_zero, List.set_cons_succ]))
  refine (HC.out _).mono ?_
  rintro e w2 ⟨rfl, hb2⟩
  have H2 := H1.step hb2
  have hbx2 := H2.bx
  have lt2 := hbx2.lt
  have HP := Lib.hid (placeC cap mg q w2 H2.sl HR.out (by omega))
  rw [HCC.out] at HP
  have HW := Lib.hid (hb.trans (hb2.mono hb.size))
  obtain ⟨g, hgx⟩ : ∃ g, w.heap.size = g := ⟨_, rfl⟩
  have hX2 := hX.step hb2
  rw [hgx] at hX2
  revert HP hzl HU HE0
  generalize (lo L q).length = z
  intro hzl HU HE0 HP
  obtain ⟨n, hn⟩ : ∃ n, L.length = n := ⟨_, rfl⟩
  have hbx2 : Box w2 t [.int .i64 mg, .slice (some a) n cap] 30 := hn ▸ H2.bx
  rw [hn] at HP
  clear H1 hb hb2 hX lt0 HC
  go_wp2_with (refine wpL_load (l := [.int .i64 mg, .slice (some a) n cap]) (by rfl) (by rfl) hbx2 Tryz.underlying30 (by rfl) (by kernel_rfl) (by kernel_rfl) ?_; (conv => arg 5; simp only [Act.put, List.setIfInBounds_toArray, List.set_cons_zero, List.set_cons_succ]))
  refine HP.out.mono ?_
  rintro e w3 ⟨rfl, hb3⟩
  have H3 := H2.step hb3
  have hX3 := hX2.step hb3
  have hbx3 := hbx2.step hb3
  have HW3 := Lib.hid (HW.out.trans (hb3.mono HW.out.size))
  have ct := hbx3.cell 1
  simp only [List.getElem?_cons_zero, List.getElem?_cons_succ] at ct
  have hg3 : t < w3.heap.size := hbx3.lt
  clear H2 hX2 hbx2 HP HW hb3 lt2
  have hN : Below w3.heap.size w3 (w3.alloc (.cells #[] 79)) := (Below.refl _ _).alloc (Nat.le_refl _) _
  have hO0 : OwnE (w3.alloc (.cells #[] 79)) w3.heap.size (.slice (some ⟨w3.heap.size, 0, none⟩) 0 0) [] := DSl.own_new w3 [] (by simp)
  have hl1 : SlEC (w3.alloc (.cells #[] 79)) (some a) n cap L := ⟨hn ▸ (H3.step hN).sl, fun e => by cases e⟩
  have hz1 : n ≤ 100000 := by omega
  have hbN : w3.heap.size ≤ (w3.alloc (.cells #[] 79)).heap.size := hN.size
  have ctN : (w3.alloc (.cells #[] 79)).cell? ⟨t, 1, none⟩ = some (.slice (some a) n cap) := by rw [(bcell hN).1 t 1 hg3]; exact ct
  have hgN : t < (w3.alloc (.cells #[] 79)).heap.size := by omega
  have HN2 := Lib.hid hN
  clear hN ct
  go_wp2_with (at_builtin; refine wpE_all (by rfl) (.tmp 30) (.tmp 34) (by rfl) (by rfl) hO0 (by rfl) hl1 (by simp) hz1 hbN ?_; intro v6 w6 hO6 hB6; refine stop_ ?_)
  have hb6 := hB6 w3 HN2.out
  have hx6 := hbx3.step hb6
  have hX6 := hX3.step hb6
  rw [List.nil_append] at hO6
  obtain ⟨gn, c6, rfl, hgb, hnc, hob⟩ := own_ob hO6 (by omega)
  rw [hn] at hnc
  have hgt : t ≠ gn := by omega
  have hgg : g < w3.heap.size := hX3.lt
  have htg : t ≠ g := by omega
  have hF6 := (Fr.of_below (S := fun k => k = t) (HW3.out.trans (hb6.mono HW3.out.size))).trans (fr_cell w6 t 1 (.slice (some ⟨gn, 0, none⟩) n c6)) (fun j hj => .inl hj)
  have hx7 := hx6.set 1 (.slice (some ⟨gn, 0, none⟩) n c6)
  have hX7 := hX6.other (p := ⟨t, 1, none⟩) htg (.slice (some ⟨gn, 0, none⟩) n c6)
  have hob7 := hob.other (fr_cell w6 t 1 (.slice (some ⟨gn, 0, none⟩) n c6)) (fun e => hgt e.symm)
  have ct6 := hx6.cell 1
  have cf6 := hx6.free 1
  have hg6 : t < w6.heap.size := hx6.lt
  simp only [List.getElem?_cons_zero, List.getElem?_cons_succ] at ct6
  rw [hn]
  have HX7 := Lib.hid hx7; have HXX := Lib.hid hX7; have HOB := Lib.hid hob7; have HF := Lib.hid hF6
  clear hx6 hX6 hx7 hX7 hob hob7 hF6 hO6 hO0 hl1 hbN ctN hgN hB6 hb6
  unfold Stop
  go_wp2_with fail
  revert HX7 HXX HOB HF
  generalize w6.setCell ⟨t, 1, none⟩ (.slice (some ⟨gn, 0, none⟩) n c6) = w7
  intro HX7 HXX HOB HF
  have ct7 := HX7.out.cell 1
  have hg7 : t < w7.heap.size := HX7.out.lt
  simp only [List.set_cons_succ, List.set_cons_zero, List.getElem?_cons_zero, List.getElem?_cons_succ] at ct7
  have z1 : 0 ≤ (z : Int) ∧ (z : Int) < (n : Int) := by omega
  clear ct6 cf6 hg6
  refine wp_region_ph [(8, .free [])] (by kernel_rfl) (by kernel_rfl) ?_
  refine Ph.belowd ?_
  simp only [List.drop_succ_cons, List.drop_zero, List.take_succ_cons, List.take_zero, Nat.reduceSub, Nat.sub_zero]
  iterate 5 (refine SeqO.val (v := ?_) (by rfl) (by rfl) (fun w1 hS => ?_) ?_; rotate_left; (· obtain ⟨hc, hcf⟩ := bcell hS; go_simp; try with_reducible rfl); simp only [Act.put, List.setIfInBounds_toArray, List.set_cons_zero, List.set_cons_succ])
  refine SeqO.row (l := [.int .i64 x.lo.x, .int .i64 x.lo.y, .int .i64 x.lo.z, .int .i64 x.hi.x, .int .i64 x.hi.y, .int .i64 x.hi.z]) (by rfl) (by rfl) HXX.out Tryz.underlying38 (by rfl) (by kernel_rfl) (by rfl) (by rfl) ?_
  simp only [Act.put, List.setIfInBounds_toArray, List.set_cons_zero, List.set_cons_succ]
  iterate 2 (refine SeqO.val (v := ?_) (by rfl) (by rfl) (fun w1 hS => ?_) ?_; rotate_left; (· obtain ⟨hc, hcf⟩ := bcell hS; go_simp; try with_reducible rfl); simp only [Act.put, List.setIfInBounds_toArray, List.set_cons_zero, List.set_cons_succ])
  refine SeqO.nil0 fun w8 hS8 => ?_
  refine Ph.last ?_
  simp only [List.drop_succ_cons, List.drop_zero, List.take_succ_cons, List.take_zero, Nat.reduceSub, Nat.sub_zero]
  have hob8 := HOB.out.step hS8
  have hx8 := HX7.out.step hS8
  have hX8 := HXX.out.step hS8
  have hF8 := HF.out.trans (Fr.of_below (S := fun k => k = t) hS8) (fun j hj => .inl hj)
  refine wpList_store_mid (by rfl) 38 (.tmp 45) (.tmp 43) (by rfl) gn (z * 13 + 1) (bdv x).toArray (by rfl) (by rfl) (OB.there hob8 HE0.out 1 6 (by omega)) (by kernel_rfl) (by simp [bdv, Value.oneCell']) ?_
  have hob9 := OB.putB hob8 HE0.out x
  have hx9 := box_cells (fun e => hgt e.symm) (bdv x) (z * 13 + 1) _ hx8
  have hX9 := box_cells (show gn ≠ g by omega) (bdv x) (z * 13 + 1) _ hX8
  have hwg : w.heap.size ≤ gn := by have := HW3.out.size; omega
  have hF9 := hF8.trans (fr_cells w8 gn (z * 13 + 1) (bdv x)) (fun j hj => .inr (by rw [show j = gn from hj]; exact hwg))
  revert hob9 hx9 hX9 hF9
  show OB (w8.setCells gn (z * 13 + 1) (bdv x).toArray.toList) _ _ → _
  generalize w8.setCells gn (z * 13 + 1) (bdv x).toArray.toList = w9
  intro hob9 hx9 hX9 hF9
  rw [he9] at hob9
  have hz9 : (L.set z ⟨q, x, f⟩)[z]? = some ⟨q, x, f⟩ := List.getElem?_set_self (by omega)
  have HX9 := Lib.hid hx9; have HXX9 := Lib.hid hX9; have HOB9 := Lib.hid hob9; have HF9 := Lib.hid hF9; have HZ9 := Lib.hid hz9
  have hFA := OB.fat hob9 hz9
  have HFA := Lib.hid hFA
  have hgl := hob9.lt
  clear hob8 hx8 hX8 hF8 hob9 hx9 hX9 hF9 hz9 hFA HX7 HXX HOB HF hS8 ct7 hg7
  have ct9 := HX9.out.cell 1
  have hg9 : t < w9.heap.size := HX9.out.lt
  simp only [List.set_cons_succ, List.set_cons_zero, List.getElem?_cons_zero, List.getElem?_cons_succ] at ct9
  refine wpList_nil ?_
  cases hv
  · have HM := Lib.hid (fun u => (rholdsC f x u).eq (v' := .bool false) (by rw [HH.out]))
    go_wp2_with fail
    refine wp_region_ph [(10, .free [])] (by kernel_rfl) (by kernel_rfl) ?_
    refine Ph.belowd ?_
    simp only [List.drop_succ_cons, List.drop_zero, List.take_succ_cons, List.take_zero, Nat.reduceSub, Nat.sub_zero]
    iterate 7 (refine SeqO.val (v := ?_) (by rfl) (by rfl) (fun w1 hS => ?_) ?_; rotate_left; (· obtain ⟨hc, hcf⟩ := bcell hS; go_simp; try with_reducible rfl); simp only [Act.put, List.setIfInBounds_toArray, List.set_cons_zero, List.set_cons_succ])
    refine SeqO.at (l := [.int .i64 f.lo.x, .int .i64 f.lo.y, .int .i64 f.lo.z, .int .i64 f.hi.x, .int .i64 f.hi.y, .int .i64 f.hi.z]) (by rfl) (by rfl) hgl HFA.out Tryz.underlying38 (by rfl) (by kernel_rfl) (by rfl) (by rfl) ?_
    simp only [Act.put, List.setIfInBounds_toArray, List.set_cons_zero, List.set_cons_succ]
    refine SeqO.row (l := [.int .i64 x.lo.x, .int .i64 x.lo.y, .int .i64 x.lo.z, .int .i64 x.hi.x, .int .i64 x.hi.y, .int .i64 x.hi.z]) (by rfl) (by rfl) HXX9.out Tryz.underlying38 (by rfl) (by kernel_rfl) (by rfl) (by rfl) ?_
    simp only [Act.put, List.setIfInBounds_toArray, List.set_cons_zero, List.set_cons_succ]
    refine SeqO.callv (by rfl) (by rfl) (by rfl) cf44 (by simp [Act.eval]) (fun w1 hS => HM.out w1) ?_
    simp only [Act.put, List.setIfInBounds_toArray, List.set_cons_zero, List.set_cons_succ]
    refine SeqO.nil0 fun w10 hS10 => ?_
    refine Ph.last ?_
    simp only [List.drop_succ_cons, List.drop_zero, List.take_succ_cons, List.take_zero, Nat.reduceSub, Nat.sub_zero]
    refine wpList_nil ?_
    have HB10 := Lib.hid (HOB9.out.step hS10); have HX10 := Lib.hid (HX9.out.step hS10); have HXX10 := Lib.hid (HXX9.out.step hS10)
    have HF10 := Lib.hid (HF9.out.trans (Fr.of_below (S := fun k => k = t) hS10) (fun j hj => .inl hj))
    have c010 := HX10.out.cell 0
    have ct10 := HX10.out.cell 1
    have hg10 : t < w10.heap.size := HX10.out.lt
    simp only [List.set_cons_succ, List.set_cons_zero, List.getElem?_cons_zero, List.getElem?_cons_succ] at ct10 c010
    clear ct9 hg9 HM hS10 HX9 HXX9 HOB9 HF9 HFA hgl
    go_wp2_with fail
    refine wp_region_ph [(13, .free [])] (by kernel_rfl) (by kernel_rfl) ?_
    refine Ph.belowd ?_
    simp only [List.drop_succ_cons, List.drop_zero, List.take_succ_cons, List.take_zero, Nat.reduceSub, Nat.sub_zero]
    iterate 5 (refine SeqO.val (v := ?_) (by rfl) (by rfl) (fun w1 hS => ?_) ?_; rotate_left; (· obtain ⟨hc, hcf⟩ := bcell hS; go_simp; try with_reducible rfl); simp only [Act.put, List.setIfInBounds_toArray, List.set_cons_zero, List.set_cons_succ])
    refine SeqO.row (l := [.int .i64 x.lo.x, .int .i64 x.lo.y, .int .i64 x.lo.z, .int .i64 x.hi.x, .int .i64 x.hi.y, .int .i64 x.hi.z]) (by rfl) (by rfl) HXX10.out Tryz.underlying38 (by rfl) (by kernel_rfl) (by rfl) (by rfl) ?_
    simp only [Act.put, List.setIfInBounds_toArray, List.set_cons_zero, List.set_cons_succ]
    iterate 4 (refine SeqO.val (v := ?_) (by rfl) (by rfl) (fun w1 hS => ?_) ?_; rotate_left; (· obtain ⟨hc, hcf⟩ := bcell hS; go_simp; try with_reducible rfl); simp only [Act.put, List.setIfInBounds_toArray, List.set_cons_zero, List.set_cons_succ])
    refine SeqO.callv (by rfl) (by rfl) (by rfl) cf43 (by simp [Act.eval]) (fun w1 hS => rgrowC x mg w1) ?_
    simp only [Act.put, List.setIfInBounds_toArray, List.set_cons_zero, List.set_cons_succ]
    iterate 2 (refine SeqO.val (v := ?_) (by rfl) (by rfl) (fun w1 hS => ?_) ?_; rotate_left; (· obtain ⟨hc, hcf⟩ := bcell hS; go_simp; try with_reducible rfl); simp only [Act.put, List.setIfInBounds_toArray, List.set_cons_zero, List.set_cons_succ])
    refine SeqO.nil0 fun w11 hS11 => ?_
    refine Ph.last ?_
    simp only [List.drop_succ_cons, List.drop_zero, List.take_succ_cons, List.take_zero, Nat.reduceSub, Nat.sub_zero]
    have hob11 := HB10.out.step hS11
    have hx11 := HX10.out.step hS11
    have hF11 := HF10.out.trans (Fr.of_below (S := fun k => k = t) hS11) (fun j hj => .inl hj)
    have hz11 : (L.set z ⟨q, x, f⟩)[z]? = some ⟨q, x, f⟩ := HZ9.out
    refine wpList_store_mid (by rfl) 38 (.tmp 68) (.tmp 66) (by rfl) gn (z * 13 + 7) (bdv (grow x mg)).toArray (by rfl) (by rfl) (OB.there hob11 hz11 7 6 (by omega)) (by kernel_rfl) (by simp [bdv, Value.oneCell']) ?_
    have hob12 := OB.putF hob11 hz11 (grow x mg)
    rw [List.set_set] at hob12
    have hx12 := box_cells (fun e => hgt e.symm) (bdv (grow x mg)) (z * 13 + 7) _ hx11
    have hF12 := hF11.trans (fr_cells w11 gn (z * 13 + 7) (bdv (grow x mg))) (fun j hj => .inr (by rw [show j = gn from hj]; exact hwg))
    revert hob12 hx12 hF12
    show OB (w11.setCells gn (z * 13 + 7) (bdv (grow x mg)).toArray.toList) _ _ → _
    generalize w11.setCells gn (z * 13 + 7) (bdv (grow x mg)).toArray.toList = w12
    intro hob12 hx12 hF12
    clear hob11 hx11 hF11 hz11 c010 ct10 hg10 HB10 HX10 HXX10 HF10 hS11
    refine wpList_nil ?_
    go_wp2_with fail
    have hu : L.set z ⟨q, x, grow x mg⟩ = TrE.upd L ⟨q, x, if (false = true) then f else grow x mg⟩ := by rw [if_neg (by decide)]; exact HU.out (grow x mg)
    exact bodyPost_ret (v := .tuple #[.bool true, .int .i64 0]) (by simp [results, Tryz.results21, go_sem]) rfl ⟨rfl, hu ▸ ob_dt hob12 hx12 (by rw [List.length_set, hn]) hnc hgt (HPP.out gn hwg), hF12⟩
  · have HM := Lib.hid (fun u => (rholdsC f x u).eq (v' := .bool true) (by rw [HH.out]))
    go_wp2_with fail
    refine wp_region_ph [(10, .free [])] (by kernel_rfl) (by kernel_rfl) ?_
    refine Ph.belowd ?_
    simp only [List.drop_succ_cons, List.drop_zero, List.take_succ_cons, List.take_zero, Nat.reduceSub, Nat.sub_zero]
    iterate 7 (refine SeqO.val (v := ?_) (by rfl) (by rfl) (fun w1 hS => ?_) ?_; rotate_left; (· obtain ⟨hc, hcf⟩ := bcell hS; go_simp; try with_reducible rfl); simp only [Act.put, List.setIfInBounds_toArray, List.set_cons_zero, List.set_cons_succ])
    refine SeqO.at (l := [.int .i64 f.lo.x, .int .i64 f.lo.y, .int .i64 f.lo.z, .int .i64 f.hi.x, .int .i64 f.hi.y, .int .i64 f.hi.z]) (by rfl) (by rfl) hgl HFA.out Tryz.underlying38 (by rfl) (by kernel_rfl) (by rfl) (by rfl) ?_
    simp only [Act.put, List.setIfInBounds_toArray, List.set_cons_zero, List.set_cons_succ]
    refine SeqO.row (l := [.int .i64 x.lo.x, .int .i64 x.lo.y, .int .i64 x.lo.z, .int .i64 x.hi.x, .int .i64 x.hi.y, .int .i64 x.hi.z]) (by rfl) (by rfl) HXX9.out Tryz.underlying38 (by rfl) (by kernel_rfl) (by rfl) (by rfl) ?_
    simp only [Act.put, List.setIfInBounds_toArray, List.set_cons_zero, List.set_cons_succ]
    refine SeqO.callv (by rfl) (by rfl) (by rfl) cf44 (by simp [Act.eval]) (fun w1 hS => HM.out w1) ?_
    simp only [Act.put, List.setIfInBounds_toArray, List.set_cons_zero, List.set_cons_succ]
    refine SeqO.nil0 fun w10 hS10 => ?_
    refine Ph.last ?_
    simp only [List.drop_succ_cons, List.drop_zero, List.take_succ_cons, List.take_zero, Nat.reduceSub, Nat.sub_zero]
    refine wpList_nil ?_
    have hb10 := HOB9.out.step hS10
    have hx10 := HX9.out.step hS10
    have hF10 := HF9.out.trans (Fr.of_below (S := fun k => k = t) hS10) (fun j hj => .inl hj)
    clear ct9 hg9 HM
    go_wp2_with fail
    have hu : L.set z ⟨q, x, f⟩ = TrE.upd L ⟨q, x, if (true = true) then f else grow x mg⟩ := by rw [if_pos rfl]; exact HU.out f
    exact bodyPost_ret (v := .tuple #[.bool false, .int .i64 0]) (by simp [results, Tryz.results21, go_sem]) rfl ⟨rfl, hu ▸ ob_dt hb10 hx10 (by rw [List.length_set, hn]) hnc hgt (HPP.out gn hwg), hF10⟩
theorem rsetC {t : Nat} {mg q : Int} {x : Bd} {L : List En} (w : World) {P : Nat → Prop} (h : DT w t mg L P) (hP : ∀ k, w.heap.size ≤ k → P k) (hr : Rise L) (hl : L.length ≤ 1000) :
    Calls Tryz.prog 21 #[.pointer (some ⟨t, 0, none⟩), .int .i64 q, .agg #[.int .i64 x.lo.x, .int .i64 x.lo.y, .int .i64 x.lo.z, .int .i64 x.hi.x, .int .i64 x.hi.y, .int .i64 x.hi.z]] w fun e w' => e = .returned (.tuple #[.bool (setM L q x), .int .i64 (setE L q x)]) ∧ DT w' t mg (setL mg L q x) P ∧ Fr w w' fun k => k = t := by
  by_cases hq : 1 ≤ q ∧ q ≤ 4096
  · by_cases hx : x.ok
    · cases hc : isIn L q
      · have e0 : setE L q x = 4 := by unfold setE; rw [if_pos hq, if_pos hx, hc]; rfl
        have e1 : setL mg L q x = L := by unfold setL; rw [if_neg (by rw [e0]; decide)]
        have e2 : setM L q x = false := by unfold setM; rw [e0]; rfl
        rw [e0, e1, e2]
        exact (rseNo w h hP hr hl hq hx hc).mono fun e w' ⟨he, hb⟩ => ⟨he, h.step hb, Fr.of_below hb⟩
      · have e0 : setE L q x = 0 := by unfold setE; rw [if_pos hq, if_pos hx, hc]; rfl
        have e1 : setL mg L q x = TrE.upd L ⟨q, x, if holds (fatOf L q) x then fatOf L q else grow x mg⟩ := by unfold setL; rw [if_pos e0]
        have e2 : setM L q x = !holds (fatOf L q) x := by unfold setM; rw [e0]; rfl
        rw [e0, e1, e2]
        exact rseIn w h hP hr hl hq hx hc
    · have e0 : setE L q x = 7 := by unfold setE; rw [if_pos hq, if_neg hx]
      have e1 : setL mg L q x = L := by unfold setL; rw [if_neg (by rw [e0]; decide)]
      have e2 : setM L q x = false := by unfold setM; rw [e0]; rfl
      rw [e0, e1, e2]
      exact (rseBad w hq hx).mono fun e w' ⟨he, hb⟩ => ⟨he, h.step hb, Fr.of_below hb⟩
  · have e0 : setE L q x = 2 := if_neg hq
    have e1 : setL mg L q x = L := by unfold setL; rw [if_neg (by rw [e0]; decide)]
    have e2 : setM L q x = false := by unfold setM; rw [e0]; rfl
    rw [e0, e1, e2]
    exact (rseRng w hq).mono fun e w' ⟨he, hb⟩ => ⟨he, h.step hb, Fr.of_below hb⟩
end DSe
end Go.Proofs.YtbcjnckejkjfeaaGreat
namespace Go.NP
set_option linter.unusedVariables false
set_option linter.unusedSimpArgs false
namespace TFp
open TrP TrP.Tr TrE
/-- What comes of a tree, the right one of two first. -/
def outT (m : M) (q : Bd → Bool) : Tr → List Int
  | leaf i => if q (m i).fat then (if q (m i).b then [(m i).n] else []) else []
  | node i l r => if q (m i).fat then outT m q r ++ outT m q l else []
theorem out_no {m : M} {q : Bd → Bool} {t : Tr} (h : q (m t.ix).fat = false) : outT m q t = [] := by
  cases t with
  | leaf i => unfold outT; rw [if_neg (by simpa [Tr.ix] using h)]
  | node i l r => unfold outT; rw [if_neg (by simpa [Tr.ix] using h)]
theorem out_two {m : M} {q : Bd → Bool} {i : Int} {l r : Tr} (h : q (m i).fat = true) : outT m q (node i l r) = outT m q r ++ outT m q l := by rw [outT, if_pos h]
theorem out_yes {m : M} {q : Bd → Bool} {i : Int} (h : q (m i).fat = true) (h2 : q (m i).b = true) : outT m q (leaf i) = [(m i).n] := by unfold outT; rw [if_pos h, if_pos h2]
theorem out_nay {m : M} {q : Bd → Bool} {i : Int} (h : q (m i).fat = true) (h2 : q (m i).b = false) : outT m q (leaf i) = [] := by unfold outT; rw [if_pos h, if_neg (by simp [h2])]
theorem out_len {m : M} {q : Bd → Bool} : ∀ t : Tr, (outT m q t).length ≤ t.all.length
  | leaf i => by unfold outT; split <;> (try split) <;> simp [Tr.all]
  | node i l r => by
    have h1 := out_len (m := m) (q := q) l; have h2 := out_len (m := m) (q := q) r
    unfold outT; split
    · simp only [List.length_append, Tr.all, List.length_cons]; omega
    · simp
/-- It is what the leaves' bounds tell. -/
theorem out_perm {m : M} {q : Bd → Bool} (hq : ∀ F b, holds F b = true → q b = true → q F = true) : ∀ {t : Tr}, Fit m t → (outT m q t).Perm ((t.lv.filter fun i => q (m i).b).map fun i => (m i).n)
  | leaf i, h => by
    cases h1 : q (m i).fat with
    | false =>
      rw [out_no (t := leaf i) h1]
      have : q (m i).b = false := by
        cases h2 : q (m i).b with
        | false => rfl
        | true => rw [hq _ _ h.2 h2] at h1; cases h1
      simp [Tr.lv, this]
    | true =>
      cases h2 : q (m i).b with
      | false => rw [out_nay h1 h2]; simp [Tr.lv, h2]
      | true => rw [out_yes h1 h2]; simp [Tr.lv, h2]
  | node i l r, h => by
    cases h1 : q (m i).fat with
    | false =>
      rw [out_no (t := node i l r) h1]
      have : (node i l r).lv.filter (fun i => q (m i).b) = [] := List.filter_eq_nil_iff.2 fun j hj hb => by
        have h3 : q (m i).fat = true := hq _ _ (Fit.under h j hj) hb
        rw [h1] at h3; cases h3
      rw [this]; exact List.Perm.refl _
    | true =>
      rw [out_two h1]
      rw [show (node i l r).lv = l.lv ++ r.lv from rfl, List.filter_append, List.map_append]
      exact List.perm_append_comm.trans ((out_perm hq h.2.2.1).append (out_perm hq h.2.2.2))
/-- What is still to be looked at: a place of a tree, or none. -/
def ixo : Option Tr → Int
  | none => -1
  | some t => t.ix
def szo : Option Tr → Nat
  | none => 1
  | some t => t.all.length
def outO (m : M) (q : Bd → Bool) : Option Tr → List Int
  | none => []
  | some t => outT m q t
def rest (m : M) (q : Bd → Bool) (ss : List (Option Tr)) : List Int := (ss.reverse.map (outO m q)).flatten
theorem rest_snoc (m : M) (q : Bd → Bool) (ss : List (Option Tr)) (x : Option Tr) : rest m q (ss ++ [x]) = outO m q x ++ rest m q ss := by unfold rest; simp
theorem rest_two {m : M} {q : Bd → Bool} {ss : List (Option Tr)} {i : Int} {l r : Tr} (h : q (m i).fat = true) : rest m q (ss ++ [some l, some r]) = rest m q (ss ++ [some (node i l r)]) := by
  rw [show ss ++ [some l, some r] = (ss ++ [some l]) ++ [some r] by simp, rest_snoc, rest_snoc, rest_snoc]
  show outT m q r ++ (outT m q l ++ _) = outT m q (node i l r) ++ _
  rw [out_two h, List.append_assoc]
def szs (ss : List (Option Tr)) : Nat := (ss.map szo).sum
theorem szo_pos (x : Option Tr) : 1 ≤ szo x := by
  cases x with
  | none => exact Nat.le_refl _
  | some t => cases t <;> simp [szo, Tr.all]
theorem szs_snoc (ss : List (Option Tr)) (x : Option Tr) : szs (ss ++ [x]) = szs ss + szo x := by unfold szs; simp
theorem szs_two (ss : List (Option Tr)) (i : Int) (l r : Tr) : szs (ss ++ [some l, some r]) + 1 = szs (ss ++ [some (node i l r)]) := by
  unfold szs; simp [szo, Tr.all]; omega
theorem szs_len : ∀ ss : List (Option Tr), ss.length ≤ szs ss
  | [] => Nat.le_refl _
  | x :: r => by
    have := szs_len r; have := szo_pos x
    show r.length + 1 ≤ szo x + szs r
    omega
/-- An item hangs right. -/
def ItOK (m : M) (N : Nat) : Option Tr → Prop
  | none => True
  | some t => (∃ u, Rep m u t) ∧ Fit m t ∧ ∀ i ∈ t.all, 0 ≤ i ∧ i < N
theorem ItOK.two {m : M} {N : Nat} {i : Int} {l r : Tr} (h : ItOK m N (some (node i l r))) : ItOK m N (some l) ∧ ItOK m N (some r) := by
  obtain ⟨⟨u, h1⟩, h2, h3⟩ := h
  exact ⟨⟨⟨_, h1.2.2.2.2.1⟩, h2.2.2.1, fun k hk => h3 k (List.mem_cons_of_mem _ (List.mem_append_left _ hk))⟩, ⟨_, h1.2.2.2.2.2⟩, h2.2.2.2, fun k hk => h3 k (List.mem_cons_of_mem _ (List.mem_append_right _ hk))⟩
end TFp
end Go.NP
