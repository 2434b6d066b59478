/- Islands' two closures: root and stands. No condition. -/
import Derived.Test.YtocelepohkbooaaQVm
import Derived.Test.YtocelepohkbooaaQCk
import Derived.Maps.AppendAt
namespace Go.Proofs.Ytocelepohkbooaa
set_option linter.unusedVariables false
set_option linter.unusedSimpArgs false
open Go.RowKit Go.NP
namespace QRt
open QVm
def im (f : Int → Option Int) : Int → Option Value := fun n => (f n).map (.int .i64)
def updI (f : Int → Option Int) (n v : Int) : Int → Option Int := fun k => if k = n then some v else f k
theorem im_upd (f : Int → Option Int) (n v : Int) : updV (im f) n (.int .i64 v) = im (updI f n v) := by
  funext k; unfold updV im updI; split <;> rfl
theorem im_some (f : Int → Option Int) (n : Int) : (im f n).isSome = (f n).isSome := by unfold im; cases f n <;> rfl
theorem im_at {f : Int → Option Int} {n k : Int} (h : f n = some k) : (im f n).getD (.int .i64 0) = .int .i64 k := by unfold im; rw [h]; rfl
theorem im_no {f : Int → Option Int} {n : Int} (h : f n = none) : (im f n).getD (.int .i64 0) = .int .i64 0 := by unfold im; rw [h]; rfl
/-- The trees: each leads to one that is no greater, and the one where it ends is r of it. -/
structure Inv (f : Int → Option Int) (r : Int → Int) : Prop where
  rng : ∀ n, (f n).isSome → 1 ≤ n ∧ n ≤ 4096
  down : ∀ n k, f n = some k → k ≤ n ∧ (f k).isSome ∧ r k = r n
  top : ∀ n, f n = some n → r n = n
  root : ∀ n, (f n).isSome → f (r n) = some (r n)
  no : ∀ n, f n = none → r n = n
theorem updI_some (f : Int → Option Int) (n v k : Int) (h : (f n).isSome) : (updI f n v k).isSome = (f k).isSome := by
  unfold updI
  split
  · rename_i e; subst e; rw [h]; rfl
  · rfl
theorem Inv.halve {f : Int → Option Int} {r : Int → Int} (h : Inv f r) {n k j : Int} (h1 : f n = some k) (h2 : f k = some j) (hne : k ≠ n) : Inv (updI f n j) r := by
  have hs : (f n).isSome := by rw [h1]; rfl
  have d1 := h.down n k h1
  have d2 := h.down k j h2
  refine ⟨fun x hx => h.rng x (by rwa [updI_some f n j x hs] at hx), fun x y hxy => ?_, fun x hx => ?_, fun x hx => ?_, fun x hx => ?_⟩
  · rw [updI_some f n j y hs]
    unfold updI at hxy
    split at hxy
    · rename_i e; subst e; cases hxy
      exact ⟨by omega, d2.2.1, by rw [d2.2.2, d1.2.2]⟩
    · exact h.down x y hxy
  · unfold updI at hx
    split at hx
    · rename_i e; subst e; injection hx with hx; omega
    · exact h.top x hx
  · rw [updI_some f n j x hs] at hx
    have := h.root x hx
    unfold updI
    split
    · rename_i e
      rw [e, h1] at this
      injection this with this
      exact absurd this hne
    · exact this
  · have : (updI f n j x).isSome = false := by rw [hx]; rfl
    rw [updI_some f n j x hs] at this
    exact h.no x (by simpa using this)
theorem Inv.new {f : Int → Option Int} {r : Int → Int} (h : Inv f r) {n : Int} (h1 : f n = none) (hr : 1 ≤ n ∧ n ≤ 4096) : Inv (updI f n n) r := by
  have hn := h.no n h1
  refine ⟨fun x hx => ?_, fun x y hxy => ?_, fun x hx => ?_, fun x hx => ?_, fun x hx => ?_⟩
  · unfold updI at hx
    split at hx
    · rename_i e; subst e; exact hr
    · exact h.rng x hx
  · unfold updI at hxy ⊢
    split at hxy
    · rename_i e; subst e; cases hxy
      simp
    · have := h.down x y hxy
      refine ⟨this.1, ?_, this.2.2⟩
      split
      · rfl
      · exact this.2.1
  · unfold updI at hx
    split at hx
    · rename_i e; subst e; exact hn
    · exact h.top x hx
  · unfold updI at hx ⊢
    split at hx
    · rename_i e; subst e; rw [hn]; simp
    · have := h.root x hx
      split
      · rename_i e; rw [e]
      · exact this
  · unfold updI at hx
    split at hx
    · cases hx
    · exact h.no x hx
theorem zI (w : World) : (zeroValue 3).run Try.prog w = .ok (.int .i64 0) w := by kernel_rfl
theorem wf_rng {n : Int} (h : 1 ≤ n ∧ n ≤ 4096) : wfI n := wfI_small (by omega) (by omega)
set_option maxRecDepth 100000 in
set_option maxHeartbeats 2000000 in
theorem rootC {f : Int → Option Int} {r : Int → Int} {b c gu : Nat} {n0 : Int} (w : World) (hV : VM w b (im f) c) (hI : Inv f r) (hB : Box w gu [.map (some b)] 48) (hne : gu ≠ b) (hn : (f n0).isSome) (hc : c < maxLen) :
    Calls Try.prog 30 #[.int .i64 n0, .pointer (some ⟨gu, 0, none⟩)] w fun e w' => e = .returned (.int .i64 (r n0)) ∧ ∃ f', VM w' b (im f') c ∧ Inv f' r ∧ (∀ k, (f' k).isSome = (f k).isSome) ∧ w.grownBy w' (some b) := by
  obtain ⟨res, hres⟩ : ∃ x, r n0 = x := ⟨_, rfl⟩
  rw [hres]
  have HV := Lib.hid hV; have HI := Lib.hid hI
  go_enter Try.func30, Try.ntmps30
  go_wp2_with fail
  go_loopw [0] (fun i wr => ∃ (n : Int) (f' : Int → Option Int), i = .int .i64 n ∧ (f' n).isSome ∧ r n = res ∧ VM wr b (im f') c ∧ Inv f' r ∧ (∀ k, (f' k).isSome = (f k).isSome) ∧ w.grownBy wr (some b)) (fun i _ => (RowKit.intOf i).toNat)
  case atStart => exact ⟨n0, f, rfl, hn, hres, HV.out, HI.out, fun _ => rfl, ⟨rfl, rfl, rfl, Nat.le_refl _, fun _ _ _ => rfl⟩⟩
  case round =>
    obtain ⟨n, f', rfl, hs, hr, hV, hI, hk, hG⟩ := hrel
    obtain ⟨k, hfk⟩ := Option.isSome_iff_exists.1 hs
    have rn := hI.rng n hs
    have hBr : Box wr gu [.map (some b)] 48 := (hG.block gu hB.lt (by simpa using hne)).trans hB
    have cU := hBr.cell 0
    simp only [List.getElem?_cons_zero] at cU
    have l1 := hV.look (wf_rng rn) Try.underlying48 (zI wr)
    rw [im_at hfk] at l1
    by_cases e : k = n
    · subst e
      have hrk := hI.top k hfk
      have R := Lib.hid (show k = res by rw [← hr, hrk])
      have F := Lib.hid (show ∃ f', VM wr b (im f') c ∧ Inv f' r ∧ (∀ k, (f' k).isSome = (f k).isSome) ∧ w.grownBy wr (some b) from ⟨f', hV, hI, hk, hG⟩)
      clear hI hV hk hG HV HI hs hfk hrk hr hB
      have e1 : (k != k) = false := by simp
      go_wp2_with fail
      go_ret
      exact ⟨by rw [R.out]; rfl, F.out⟩
    · have e1 : (k != n) = true := by simpa using e
      have d1 := hI.down n k hfk
      obtain ⟨j, hfj⟩ := Option.isSome_iff_exists.1 d1.2.1
      have rk := hI.rng k d1.2.1
      have d2 := hI.down k j hfj
      have rj := hI.rng j d2.2.1
      have l2 := hV.look (wf_rng rk) Try.underlying48 (zI wr)
      rw [im_at hfj] at l2
      have I2 := Lib.hid (hI.halve hfk hfj e)
      have hk2 := Lib.hid (fun x => (updI_some f' n j x hs).trans (hk x))
      have hjn : j < n := by omega
      have hrj := Lib.hid (d2.2.2.trans (d1.2.2.trans hr))
      have hV3 := Lib.hid hV
      have hsome : (im f' n).isSome = true := by rw [im_some]; exact hs
      have wn := wf_rng rn
      have hjs : (updI f' n j j).isSome := by rw [updI_some f' n j j hs]; exact d2.2.1
      clear hI hk HV HI d1 d2 hfk hfj hr hs hV
      go_wp2_with (at_mapUpdate; refine wpL_put (T := 48) (mo := .tmp 9) (x := .tmp 10) (y := .tmp 15) (v := .int .i64 j) (by rfl) (by rfl) (by rfl) (by rfl) (by rfl) hV3.out wn hc Try.underlying48 ?_; intro w2 hV2 hT2; rw [im_upd, if_pos hsome] at hV2; have hG2 := hT2.grown; have hB2 : Box w2 gu [.map (some b)] 48 := (Turned.block hT2 hne).trans hBr; have c2 := hB2.cell 0; simp only [List.getElem?_cons_zero] at c2; have l3 := hV2.look wn Try.underlying48 (zI w2); rw [im_at (f := updI f' n j) (k := j) (by simp [updI])] at l3)
      exact ⟨⟨j, updI f' n j, rfl, hjs, hrj.out, hV2, I2.out, hk2.out, hG.trans hG2⟩, by simp [RowKit.intOf]; omega⟩
/-- The set of the fixed ones. -/
def fixM (fx : List Int) : Int → Option Int := fun n => if n ∈ fx then some 1 else none
/-- What stands leaves of the trees. -/
def stood (fx : List Int) (f : Int → Option Int) (n : Int) : Int → Option Int := if n ∉ fx ∧ f n = none then updI f n n else f
theorem stood_some (fx : List Int) (f : Int → Option Int) (n k : Int) : (stood fx f n k).isSome = true ↔ (f k).isSome = true ∨ (k = n ∧ n ∉ fx) := by
  unfold stood
  split
  · rename_i h
    unfold updI
    split
    · rename_i e; simp [e, h.1]
    · rename_i e; simp [e]
  · rename_i h
    constructor
    · exact .inl
    · rintro (h1 | ⟨rfl, h1⟩)
      · exact h1
      · cases hf : f k with
        | none => exact absurd ⟨h1, hf⟩ h
        | some x => rfl
theorem Inv.stood {fx : List Int} {f : Int → Option Int} {r : Int → Int} (h : Inv f r) {n : Int} (hr : 1 ≤ n ∧ n ≤ 4096) : Inv (stood fx f n) r := by
  unfold QRt.stood
  split
  · rename_i hc; exact h.new hc.2 hr
  · exact h
theorem fix_at (fx : List Int) (n : Int) : (im (fixM fx) n).getD (.int .i64 0) = .int .i64 (if n ∈ fx then 1 else 0) := by
  unfold im fixM; split <;> rfl
set_option maxRecDepth 100000 in
set_option maxHeartbeats 2000000 in
theorem standsC {f : Int → Option Int} {fx : List Int} {b c gu bs cs gs : Nat} {n : Int} (w : World) (hV : VM w b (im f) c) (hX : VM w bs (im (fixM fx)) cs) (hB : Box w gu [.map (some b)] 48) (hY : Box w gs [.map (some bs)] 48)
    (hne : gu ≠ b ∧ gs ≠ b ∧ bs ≠ b) (hn : 1 ≤ n ∧ n ≤ 4096) (hc : c < maxLen) :
    Calls Try.prog 31 #[.int .i64 n, .pointer (some ⟨gu, 0, none⟩), .pointer (some ⟨gs, 0, none⟩)] w fun e w' => e = .returned (.bool (decide (n ∉ fx))) ∧ VM w' b (im (stood fx f n)) (c + 1) ∧ w.grownBy w' (some b) := by
  have wn := wf_rng hn
  have cU := hB.cell 0
  have cS := hY.cell 0
  simp only [List.getElem?_cons_zero] at cU cS
  have l1 := hV.look_ok wn Try.underlying48 (zI w)
  have l2 := hX.look wn Try.underlying48 (zI w)
  rw [fix_at] at l2
  rw [im_some] at l1
  obtain ⟨res, hres⟩ : ∃ x, decide (n ∉ fx) = x := ⟨_, rfl⟩
  rw [hres]
  obtain ⟨sf, hsf⟩ : ∃ x, stood fx f n = x := ⟨_, rfl⟩
  rw [hsf]
  have HV := Lib.hid hV
  by_cases hf : (f n).isSome = true
  · obtain ⟨k, hk⟩ := Option.isSome_iff_exists.1 hf
    have hst : stood fx f n = f := if_neg fun h => by rw [h.2] at hk; cases hk
    rw [hst] at hsf; subst hsf
    rw [hf, im_at hk] at l1
    by_cases hm : n ∈ fx
    · obtain rfl : false = res := by rw [← hres]; simp [hm]
      rw [if_pos hm] at l2
      clear hres hm hf hk hst
      go_enter Try.func31, Try.ntmps31
      go_wp2_with fail
      go_ret
      exact ⟨rfl, HV.out.mono (by omega), World.grownBy.refl _ _⟩
    · obtain rfl : true = res := by rw [← hres]; simp [hm]
      rw [if_neg hm] at l2
      clear hres hm hf hk hst
      go_enter Try.func31, Try.ntmps31
      go_wp2_with fail
      go_ret
      exact ⟨rfl, HV.out.mono (by omega), World.grownBy.refl _ _⟩
  · have hk : f n = none := by simpa using hf
    rw [show (f n).isSome = false by simpa using hf, im_no hk] at l1
    by_cases hm : n ∈ fx
    · have hst : stood fx f n = f := if_neg fun h => h.1 hm
      rw [hst] at hsf; subst hsf
      obtain rfl : false = res := by rw [← hres]; simp [hm]
      rw [if_pos hm] at l2
      clear hres hm hf hk hst
      go_enter Try.func31, Try.ntmps31
      go_wp2_with fail
      go_ret
      exact ⟨rfl, HV.out.mono (by omega), World.grownBy.refl _ _⟩
    · have hst : stood fx f n = updI f n n := if_pos ⟨hm, hk⟩
      rw [hst] at hsf; subst hsf
      obtain rfl : true = res := by rw [← hres]; simp [hm]
      have HX := Lib.hid hX
      have hno : (im f n).isSome = false := by rw [im_some, hk]; rfl
      rw [if_neg hm] at l2
      have HM := Lib.hid hm
      clear hres hm hf hk hst hX
      go_enter Try.func31, Try.ntmps31
      go_wp2_with (at_mapUpdate; refine wpL_put (T := 48) (mo := .tmp 21) (x := .tmp 22) (y := .tmp 23) (v := .int .i64 n) (by rfl) (by rfl) (by rfl) (by rfl) (by rfl) HV.out wn hc Try.underlying48 ?_; intro w2 hV2 hT2; rw [im_upd, if_neg (by rw [hno]; decide)] at hV2; have hG2 := hT2.grown; have hB2 : Box w2 gs [.map (some bs)] 48 := (Turned.block hT2 hne.2.1).trans hY; have c2 := hB2.cell 0; simp only [List.getElem?_cons_zero] at c2; have l3 := (HX.out.block (Turned.block hT2 hne.2.2)).look wn Try.underlying48 (zI w2); rw [fix_at, if_neg HM.out] at l3)
      go_ret
      exact ⟨rfl, hV2, hG2⟩
end QRt
end Go.Proofs.Ytocelepohkbooaa
