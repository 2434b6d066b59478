/- pairs.Islands: its contract. Condition: at most 1000 pairs and 1000 numbers. -/
import Derived.Test.YtocelepohkbooaaQIp
import Derived.Test.YtocelepohkbooaaQKs
import Derived.Test.YtocelepohkbooaaQVl
import Derived.Carry
namespace Go.Proofs.Ytocelepohkbooaa
set_option linter.unusedVariables false
set_option linter.unusedSimpArgs false
open Go.RowKit Go.NP
namespace QIs
open QVm QVl QRt QIp QCk
theorem cfR (args : Array Value) (w1 : World) : (callFunc 30 args).run Try.prog w1 = .ok (.enter 30 args) w1 := enters Try.func30 (by kernel_rfl) (by kernel_rfl) args w1
theorem cfS (args : Array Value) (w1 : World) : (callFunc 31 args).run Try.prog w1 = .ok (.enter 31 args) w1 := enters Try.func31 (by kernel_rfl) (by kernel_rfl) args w1
theorem fix_snoc {fx : List Int} {j : Nat} {x : Int} (h : fx[j]? = some x) : updI (fixM (fx.take j)) x 1 = fixM (fx.take (j + 1)) := by
  funext n
  unfold updI fixM
  rw [take_snoc h]
  by_cases e : n = x
  · subst e; simp
  · rw [if_neg e]
    by_cases hm : n ∈ fx.take j
    · rw [if_pos hm, if_pos (List.mem_append_left _ hm)]
    · rw [if_neg hm, if_neg (fun h => by rcases List.mem_append.1 h with h | h; exact hm h; exact e (List.mem_singleton.1 h))]
/-- Slices of integers in a slice, each of one's own. -/
def OwnVV (w : World) (base : Nat) (v : Value) (L : List (List Int)) : Prop := ∃ vs, OwnV w base 32 v vs ∧ vs.length = L.length ∧ ∀ (i : Nat) (u : Value) (g : List Int), vs[i]? = some u → L[i]? = some g → OwnV w base 3 u (g.map (.int .i64))
def RetI (f : Nat) (args : Array Value) (w : World) (L : List (List Int)) (n : Int) : Prop := Calls Try.prog f args w fun e w' => ∃ u, e = .returned (.tuple #[u, .int .i64 n]) ∧ OwnVV w' w.heap.size u L ∧ Below w.heap.size w w'
theorem own_one {w : World} {base : Nat} {T : TypeId} {v : Value} {l : List Value} (h : OwnV w base T v l) : v.oneCell' = true := by
  rcases h.2 with ⟨rfl, _⟩ | ⟨k, cap, cur, rfl, _⟩ <;> rfl
theorem zIs (w : World) : (zeroValue 32).run Try.prog w = .ok (.slice none 0 0) w := by kernel_rfl
theorem keepB {w w' : World} {b x : Nat} {L : List Value} {T : TypeId} (g : w.grownBy w' (some b)) (hB : Box w x L T) (hne : x ≠ b) : Box w' x L T := (g.block x hB.lt (by simpa using hne)).trans hB
theorem keepV {w w' : World} {b x c : Nat} {m : Int → Option Value} (g : w.grownBy w' (some b)) (hB : VM w x m c) (hne : x ≠ b) : VM w' x m c := hB.block (g.block x hB.lt (by simpa using hne))
theorem belowG {B b : Nat} {w0 w w' : World} (h : Below B w0 w) (g : w.grownBy w' (some b)) (hB : B ≤ w.heap.size) (hb : B ≤ b) : Below B w0 w' := h.grown g hB fun k hk => by cases hk; exact hb
/-- A map made, and the variable that holds it. -/
theorem made_var {B : Nat} {w0 w : World} (h : Below B w0 w) (hB : B ≤ w.heap.size) : VM ((w.alloc (.map #[] 0)).alloc (.cells #[.map (some w.heap.size)] 48)) w.heap.size (fun _ => none) 0 ∧ Box ((w.alloc (.map #[] 0)).alloc (.cells #[.map (some w.heap.size)] 48)) (w.heap.size + 1) [.map (some w.heap.size)] 48 ∧ Below B w0 ((w.alloc (.map #[] 0)).alloc (.cells #[.map (some w.heap.size)] 48)) := by
  have hs : (w.alloc (.map #[] 0)).heap.size = w.heap.size + 1 := by simp
  refine ⟨(VM.made w).step ((Below.refl _ _).alloc (Nat.le_refl _) _), ?_, (h.alloc hB _).alloc (by rw [hs]; omega) _⟩
  have := Box.new (w := w.alloc (.map #[] 0)) (l := [.map (some w.heap.size)]) (T := 48) rfl
  rwa [hs] at this
/-- The groups: each root's keys, in a row of one's own, no two in one. -/
structure GI (w : World) (B : Nat) (gm : Int → Option Value) (r : Int → Int) (done : List Int) : Prop where
  dom : ∀ x, (gm x).isSome = true ↔ ∃ n ∈ done, r n = x
  own : ∀ x v, gm x = some v → OwnV w B 3 v ((done.filter fun n => decide (r n = x)).map (.int .i64))
  apart : ∀ x y u v, x ≠ y → gm x = some u → gm y = some v → ∀ g, u.ownBlock = some g → v.ownBlock ≠ some g
theorem GI.start (w : World) (B : Nat) (r : Int → Int) : GI w B (fun _ => none) r [] :=
  ⟨fun x => ⟨fun h => (by cases h), fun ⟨_, h, _⟩ => (by cases h)⟩, fun x v h => (by cases h), fun x y u v _ h => (by cases h)⟩
theorem GI.keep {w w' : World} {B : Nat} {gm : Int → Option Value} {r : Int → Int} {done : List Int} (h : GI w B gm r done) (hk : ∀ g, B ≤ g → g < w.heap.size → w'.heap[g]? = w.heap[g]?) : GI w' B gm r done :=
  ⟨h.dom, fun x v hv => (h.own x v hv).block fun g hg hl => hk g ((h.own x v hv).lt g hg).1 hl, h.apart⟩
theorem GI.at {w : World} {B : Nat} {gm : Int → Option Value} {r : Int → Int} {done : List Int} (h : GI w B gm r done) (x : Int) : OwnV w B 3 ((gm x).getD (.slice none 0 0)) ((done.filter fun n => decide (r n = x)).map (.int .i64)) := by
  cases hg : gm x with
  | some v => exact h.own x v hg
  | none =>
    have : (done.filter fun n => decide (r n = x)) = [] := by
      rw [List.filter_eq_nil_iff]
      intro n hn
      have := (h.dom x).2
      intro e
      have h3 := this ⟨n, hn, by simpa using e⟩
      rw [hg] at h3; cases h3
    rw [this]
    exact OwnV.nil _ _ _
theorem GI.add {w w' : World} {B n0 : Nat} {gm : Int → Option Value} {r : Int → Int} {done : List Int} {n : Int} {v : Value} (h : GI w B gm r done) (hn0 : w.heap.size ≤ n0)
    (hv : OwnV w' B 3 v ((done.filter fun k => decide (r k = r n)).map (.int .i64) ++ [.int .i64 n]))
    (hk : ∀ g, B ≤ g → g < w.heap.size → ((gm (r n)).getD (.slice none 0 0)).ownBlock ≠ some g → w'.heap[g]? = w.heap[g]?)
    (hl : v.ownBlock = ((gm (r n)).getD (.slice none 0 0)).ownBlock ∨ ∃ k, v.ownBlock = some k ∧ n0 ≤ k) : GI w' B (updV gm (r n) v) r (done ++ [n]) := by
  have ap : ∀ y u, y ≠ r n → gm y = some u → ∀ g, u.ownBlock = some g → ((gm (r n)).getD (.slice none 0 0)).ownBlock ≠ some g := fun y u hy hu g hg e => by
    cases hr : gm (r n) with
    | none => rw [hr] at e; simp [Value.ownBlock] at e
    | some c => rw [hr] at e; exact h.apart y (r n) u c hy hu hr g hg e
  have ap2 : ∀ y u, y ≠ r n → gm y = some u → ∀ g, u.ownBlock = some g → v.ownBlock ≠ some g := fun y u hy hu g hg e => by
    rcases hl with h2 | ⟨k, h2, h3⟩
    · exact ap y u hy hu g hg (by rw [← h2]; exact e)
    · rw [h2] at e
      injection e with e
      have := ((h.own y u hu).lt g hg).2
      omega
  refine ⟨fun x => ?_, fun x u hx => ?_, fun x y u c hxy hx hy g hg => ?_⟩
  · unfold updV
    by_cases e : x = r n
    · rw [if_pos e]; exact ⟨fun _ => ⟨n, by simp, e.symm⟩, fun _ => rfl⟩
    · rw [if_neg e, h.dom]
      constructor
      · rintro ⟨k, h1, h2⟩; exact ⟨k, List.mem_append_left _ h1, h2⟩
      · rintro ⟨k, h1, h2⟩
        rcases List.mem_append.1 h1 with h1 | h1
        · exact ⟨k, h1, h2⟩
        · obtain rfl := List.mem_singleton.1 h1; exact absurd h2.symm e
  · unfold updV at hx
    rw [List.filter_append, List.map_append]
    split at hx
    · rename_i e
      cases hx
      subst e
      simpa using hv
    · rename_i e
      have e1 : [n].filter (fun k => decide (r k = x)) = [] := by
        rw [List.filter_cons, if_neg (by simpa using fun e2 => e e2.symm)]; rfl
      rw [e1]
      simp only [List.map_nil, List.append_nil]
      refine (h.own x u hx).block fun g hg hgl => hk g ((h.own x u hx).lt g hg).1 hgl (ap x u e hx g hg)
  · unfold updV at hx hy
    split at hx
    · rename_i e
      cases hx
      rw [if_neg (fun e2 => hxy (e.trans e2.symm))] at hy
      intro e3
      exact ap2 y c (fun e2 => hxy (e.trans e2.symm)) hy g e3 hg
    · rename_i e
      split at hy
      · cases hy
        exact ap2 x u e hx g hg
      · exact h.apart x y u c hxy hx hy g hg
set_option maxRecDepth 100000 in
set_option maxHeartbeats 8000000 in
theorem islOk {A B : Option Addr} {n nf : Nat} (c1 c2 : Nat) {l : List Pr} {fx : List Int} (w : World) (h : SlS w A n l) (hx : SlV w B nf (fx.map (.int .i64))) (hw : ∀ x ∈ fx, wfI x) (hn : n ≤ 1000) (hnf : nf ≤ 1000) (hf : fineS l = 0) :
    RetI 16 #[.slice A n c1, .slice B nf c2] w (islS fx l) 0 := by
  have hln := h.1
  have hfl : fx.length = nf := by have := hx.1; simpa using this
  obtain ⟨h1, h2⟩ := fineS_ok hf
  have H := Lib.hid h; have HX := Lib.hid hx; have HF := Lib.hid hf; have HW := Lib.hid hw; have HO := Lib.hid h2
  obtain ⟨ans, hans⟩ : ∃ x, islS fx l = x := ⟨_, rfl⟩
  rw [hans]
  have HA := Lib.hid hans
  clear h hx hf hw h2 hans
  have hmm := @run_makeMap Try.prog
  go_enter Try.func16, Try.ntmps16
  go_wp2_with fail
  refine (fineC c1 w H.out).mono ?_
  rintro e w1 ⟨rfl, hS1⟩
  rw [HF.out]
  have hz1 := hS1.size
  go_wp2_with fail
  go_loopw [33] (fun i wr => ∃ j : Nat, j ≤ nf ∧ i = .int .i64 (j : Int) ∧ VM wr w1.heap.size (im (fixM (fx.take j))) j ∧ Box wr (w1.heap.size + 1) [.map (some w1.heap.size)] 48 ∧ Below w.heap.size w wr) (fun i _ => nf - (RowKit.intOf i).toNat)
  case atStart =>
    obtain ⟨a1, a2, a3⟩ := made_var hS1 hz1
    exact ⟨0, by omega, rfl, a1, a2, a3⟩
  case round =>
    clear hS1
    obtain ⟨j, hj, rfl, hM, hV, hW⟩ := hrel
    by_cases hlt : j < nf
    · obtain ⟨x, hx⟩ : ∃ x, fx[j]? = some x := ⟨_, List.getElem?_eq_getElem (by omega)⟩
      obtain ⟨b, off, rfl, hb0, hsA⟩ := HX.out.2 (by omega)
      have z0 := hsA j (.int .i64 x) (by rw [List.getElem?_map, hx]; rfl)
      rw [← World.cell?_of_block (hW.block b hb0)] at z0
      have t1 : decide ((j : Int) < (nf : Int)) = true := decide_eq_true (by omega)
      have j0 : 0 ≤ (j : Int) ∧ (j : Int) < nf := by omega
      have wx := HW.out x (List.mem_of_getElem? hx)
      have cV := hV.cell 0
      simp only [List.getElem?_cons_zero] at cV
      have FS := Lib.hid (fix_snoc hx)
      have HM := Lib.hid hM
      have hcm : j < maxLen := by unfold maxLen; omega
      clear hx hsA hM
      go_wp2_with (at_mapUpdate; refine wpL_put (T := 48) (mo := .tmp 37) (x := .tmp 38) (y := .const (.int .i64 1)) (v := .int .i64 1) (by rfl) (by rfl) (by rfl) (by rfl) (by rfl) HM.out wx hcm Try.underlying48 ?_; intro w2 hV2 hT2)
      rw [im_upd, FS.out] at hV2
      have hb2 := (Turned.block hT2 (show w1.heap.size + 1 ≠ w1.heap.size by omega)).trans hV
      exact ⟨⟨j + 1, by omega, by simp, hV2.mono (by split <;> omega), hb2, Turned.below hT2 hz1 hW⟩, by simp [RowKit.intOf]; omega⟩
    · obtain rfl : j = nf := by omega
      have t1 : decide ((j : Int) < (j : Int)) = false := decide_eq_false (by omega)
      rw [List.take_of_length_le (by omega)] at hM
      have hzr := hV.lt
      obtain ⟨wa, hwa⟩ : ∃ x, x = wr := ⟨_, rfl⟩
      subst hwa
      go_wp2_with fail
      go_loopw [45] (fun i w2 => ∃ (k : Nat) (f : Int → Option Int), k ≤ n ∧ i = .int .i64 (k : Int) ∧ VM w2 wa.heap.size (im f) (2 * k) ∧ Inv f (rho fx (l.take k)) ∧ (∀ x, (f x).isSome = true ↔ keyB fx (l.take k) x = true) ∧ Box w2 (wa.heap.size + 1) [.map (some wa.heap.size)] 48 ∧ Box w2 (w1.heap.size + 1) [.map (some w1.heap.size)] 48 ∧ VM w2 w1.heap.size (im (fixM fx)) j ∧ Below w.heap.size w w2) (fun i _ => n - (RowKit.intOf i).toNat)
      case atStart =>
        obtain ⟨a1, a2, a3⟩ := made_var hW (by omega)
        have S2 := (Below.refl wa.heap.size wa).alloc (Nat.le_refl _) (.map #[] 0)
        have S3 := S2.alloc S2.size (.cells #[.map (some wa.heap.size)] 48)
        exact ⟨0, fun _ => none, by omega, rfl, a1, inv_none, fun x => by simp [keyB], a2, hV.step S3, hM.step S3, a3⟩
      case round =>
        clear hM hV hW
        obtain ⟨k, f, hk, rfl, hM, hI, hK, hU, hV, hS, hW⟩ := hrel
        by_cases hkn : k < n
        · obtain ⟨p, hp⟩ : ∃ p, l[k]? = some p := ⟨_, List.getElem?_eq_getElem (by omega)⟩
          obtain ⟨b, off, rfl, hb0, hsA⟩ := H.out.2 (by omega)
          have at1 := Lib.hid (hsA.step hb0 hW _ _ hp)
          have okp := HO.out p (List.mem_of_getElem? hp)
          unfold okP at okp
          have t2 : decide ((k : Int) < (n : Int)) = true := decide_eq_true (by omega)
          have k0 : 0 ≤ (k : Int) ∧ (k : Int) < n := by omega
          have RS := Lib.hid (rho_snoc (fx := fx) hp); have KS := Lib.hid (keyB_snoc (fx := fx) hp)
          have HP := Lib.hid hp
          have HM := Lib.hid hM; have HI := Lib.hid hI; have HK := Lib.hid hK; have HS := Lib.hid hS
          clear hsA hp hM hI hK hS
          iterate 3 go_step
          iterate 1 (with_reducible refine wpL_val (v := ?_) ?_ ?_ ?_; rotate_left; (· kernel_rfl); (· go_simp; try with_reducible rfl); conv => arg 5; simp only [Act.put, List.setIfInBounds_toArray, List.set_cons_zero, List.set_cons_succ])
          refine wpList_nil ?_
          iterate 11 go_step
          iterate 1 (with_reducible refine wpL_val (v := ?_) ?_ ?_ ?_; rotate_left; (· kernel_rfl); (· go_simp; try with_reducible rfl); conv => arg 5; simp only [Act.put, List.setIfInBounds_toArray, List.set_cons_zero, List.set_cons_succ])
          refine wpL_at (l := [.int .i64 p.a, .int .i64 p.b]) (by rfl) (by rfl) at1.out Try.underlying39 (by rfl) (by kernel_rfl) (by kernel_rfl) ?_
          conv => arg 5; simp only [Act.put, List.setIfInBounds_toArray, List.set_cons_zero, List.set_cons_succ]
          refine wpL_go (v := .pointer (some ⟨wr.heap.size, 0, none⟩)) (w' := wr.alloc (.cells [.int .i64 0, .int .i64 0].toArray 39)) (by kernel_rfl) (by go_simp) ?_
          conv => arg 5; simp only [Act.put, List.setIfInBounds_toArray, List.set_cons_zero, List.set_cons_succ]
          refine wpL_store (cs := [.int .i64 p.a, .int .i64 p.b]) (by rfl) (by rfl) (by rfl) (Box.new rfl) (by kernel_rfl) (by rfl) (by simp [Value.oneCell']) (by kernel_rfl) ?_
          conv => arg 5; simp only [Act.put, List.setIfInBounds_toArray, List.set_cons_zero, List.set_cons_succ]
          rw [alloc_setRow]
          refine wpList_nil ?_
          have S3 := (Below.refl wr.heap.size wr).alloc (Nat.le_refl _) (.cells [.int .i64 p.a, .int .i64 p.b].toArray 39)
          have hM3 := HM.out.step S3
          have hS3 := HS.out.step S3
          have hU3 := hU.step S3
          have hV3 := hV.step S3
          have hP3 : Box (wr.alloc (.cells [.int .i64 p.a, .int .i64 p.b].toArray 39)) wr.heap.size [.int .i64 p.a, .int .i64 p.b] 39 := Box.new rfl
          have hW3 := hW.alloc hW.size (.cells [.int .i64 p.a, .int .i64 p.b].toArray 39)
          have hgp := HM.out.lt
          clear S3 hU hV HS HM at1
          revert hM3 hS3 hU3 hV3 hP3 hW3
          generalize wr.alloc (.cells [.int .i64 p.a, .int .i64 p.b].toArray 39) = w3
          intro hM3 hS3 hU3 hV3 hP3 hW3
          have hwb := hW.size
          have hnes : wa.heap.size + 1 ≠ wa.heap.size ∧ w1.heap.size + 1 ≠ wa.heap.size ∧ w1.heap.size ≠ wa.heap.size := by omega
          have hcm : 2 * k + 1 < maxLen := by unfold maxLen; omega
          obtain ⟨ba, hba⟩ : ∃ x, decide (p.a ∉ fx) = x := ⟨_, rfl⟩
          obtain ⟨bb, hbb⟩ : ∃ x, decide (p.b ∉ fx) = x := ⟨_, rfl⟩
          have BA := Lib.hid hba; have BB := Lib.hid hbb
          clear hba hbb
          iterate 3 go_step
          refine wp_region_ph [(7, .free [])] (by kernel_rfl) (by kernel_rfl) ?_
          replace hM3 : VM w3.drew wa.heap.size (im f) (2 * k) := ⟨hM3.ex⟩
          replace hS3 : VM w3.drew w1.heap.size (im (fixM fx)) j := ⟨hS3.ex⟩
          replace hU3 := hU3.drew
          replace hV3 := hV3.drew
          replace hP3 := hP3.drew
          replace hW3 := hW3.drew
          revert hM3 hS3 hU3 hV3 hP3 hW3
          generalize w3.drew = w3
          intro hM3 hS3 hU3 hV3 hP3 hW3
          have CE := Lib.hid (fun (u : World) (hS : u = w3 ∨ VM u wa.heap.size (im (stood fx f p.a)) (2 * k + 1) ∧ w3.grownBy u (some wa.heap.size)) => (show Box u wr.heap.size [.int .i64 p.a, .int .i64 p.b] 39 from by
            rcases hS with rfl | ⟨_, g⟩
            · exact hP3
            · exact keepB g hP3 (by omega)))
          refine Ph.one 3 (fun u => u = w3) (fun u => VM u wa.heap.size (im (stood fx f p.a)) (2 * k + 1) ∧ w3.grownBy u (some wa.heap.size)) (by rfl) rfl ?_
          simp only [List.drop_succ_cons, List.drop_zero, List.take_succ_cons, List.take_zero, Nat.reduceSub, Nat.sub_zero]
          iterate 2 (refine SeqO.val1 (v := ?_) (by rfl) (by rfl) (fun w1 hS => ?_) ?_; rotate_left; (· skip; go_simp; try with_reducible rfl); simp only [Act.put, List.setIfInBounds_toArray, List.set_cons_zero, List.set_cons_succ])
          iterate 1 (refine SeqO.val1 (v := ?_) (by rfl) (by rfl) (fun w1 hS => ?_) ?_; rotate_left; (· (have c0 := (CE.out w1 hS).cell 0; simp only [List.getElem?_cons_zero] at c0); go_simp; try with_reducible rfl); simp only [Act.put, List.setIfInBounds_toArray, List.set_cons_zero, List.set_cons_succ])
          refine SeqO.call1 (v := .bool ba) (by rfl) (by rfl) (by rfl) cfS (by simp [Act.eval] <;> rfl) (fun u hR => ?_) ?_
          · subst hR
            refine (standsC u hM3 hS3 hU3 hV3 hnes (by omega) (by omega)).mono ?_
            rintro e w' ⟨rfl, a, b⟩
            exact ⟨by rw [BA.out], a, b⟩
          simp only [Act.put, List.setIfInBounds_toArray, List.set_cons_zero, List.set_cons_succ]
          iterate 2 (refine SeqO.val1 (v := ?_) (by rfl) (by rfl) (fun w1 hS => ?_) ?_; rotate_left; (· skip; go_simp; try with_reducible rfl); simp only [Act.put, List.setIfInBounds_toArray, List.set_cons_zero, List.set_cons_succ])
          iterate 1 (refine SeqO.val1 (v := ?_) (by rfl) (by rfl) (fun w1 hS => ?_) ?_; rotate_left; (· (have c0 := (CE.out w1 hS).cell 1; simp only [List.getElem?_cons_zero, List.getElem?_cons_succ] at c0); go_simp; try with_reducible rfl); simp only [Act.put, List.setIfInBounds_toArray, List.set_cons_zero, List.set_cons_succ])
          refine SeqO.nil1 (by decide) fun w4 hR2 => ?_
          refine Ph.last ?_
          simp only [List.drop_succ_cons, List.drop_zero, List.take_succ_cons, List.take_zero, Nat.reduceSub, Nat.sub_zero]
          have hM4 := hR2.1
          have hg4 := hR2.2
          have hS4 := keepV hg4 hS3 hnes.2.2
          have hU4 := keepB hg4 hU3 hnes.1
          have hV4 := keepB hg4 hV3 hnes.2.1
          have hP4 := keepB hg4 hP3 (by omega)
          have hW4 := belowG hW3 hg4 hW3.size (by omega)
          clear hR2 CE hM3 hS3 hU3 hV3 hP3 hW3 hg4
          with_reducible refine wpL_call (ca := ?_) (args := ?_) ?_ ?_ cfS ?_ ?_
          rotate_left 2
          · kernel_rfl
          · rfl
          · simp [Act.eval] <;> rfl
          refine (standsC w4 hM4 hS4 hU4 hV4 hnes (by omega) hcm).mono ?_
          rintro e w5 ⟨rfl, hM5, hg5⟩
          rw [BB.out]
          refine ⟨_, rfl, ?_⟩
          conv => arg 5; simp only [Act.put, List.setIfInBounds_toArray, List.set_cons_zero, List.set_cons_succ]
          have hS5 := keepV hg5 hS4 hnes.2.2
          have hU5 := keepB hg5 hU4 hnes.1
          have hV5 := keepB hg5 hV4 hnes.2.1
          have hP5 := keepB hg5 hP4 (by omega)
          have hW5 := belowG hW4 hg5 hW4.size (by omega)
          have hI5 := ((HI.out.stood (fx := fx) (n := p.a) (by omega)).stood (fx := fx) (n := p.b) (by omega))
          have hK5 : ∀ x, (stood fx (stood fx f p.a) p.b x).isSome = true ↔ keyB fx (l.take (k + 1)) x = true := fun x => by
            rw [stood_some, stood_some, KS.out x, HK.out x]
            constructor
            · rintro ((h | ⟨rfl, h⟩) | ⟨rfl, h⟩)
              · exact .inl h
              · exact .inr ⟨h, .inl rfl⟩
              · exact .inr ⟨h, .inr rfl⟩
            · rintro (h | ⟨h, rfl | rfl⟩)
              · exact .inl (.inl h)
              · exact .inl (.inr ⟨rfl, h⟩)
              · exact .inr ⟨rfl, h⟩
          have HK5 := Lib.hid hK5; have HI5 := Lib.hid hI5
          clear hM4 hS4 hU4 hV4 hP4 hW4 hg5 HI HK KS hK5 hI5
          revert hM5 HK5 HI5
          generalize stood fx (stood fx f p.a) p.b = f5
          intro hM5 HK5 HI5
          iterate 2 (with_reducible refine wpL_val (v := ?_) ?_ ?_ ?_; rotate_left; (· kernel_rfl); (· go_simp; try with_reducible rfl); conv => arg 5; simp only [Act.put, List.setIfInBounds_toArray, List.set_cons_zero, List.set_cons_succ])
          refine wpList_nil ?_
          cases hba : ba
          · have ha : ¬ p.a ∉ fx := by have := BA.out; rw [hba] at this; exact of_decide_eq_false this
            have hst : stepR fx (rho fx (l.take k)) p = rho fx (l.take k) := if_neg fun h => ha h.1
            rw [hst] at RS
            have HM5 := Lib.hid hM5; have HS5 := Lib.hid hS5
            clear hst ha hba hM5 hS5 hP5 BA BB
            go_wp2_with fail
            exact ⟨⟨k + 1, f5, by omega, by simp, HM5.out.mono (by omega), by rw [RS.out]; exact HI5.out, HK5.out, hU5, hV5, HS5.out, hW5⟩, by simp [RowKit.intOf]; omega⟩
          · have ha : p.a ∉ fx := by have := BA.out; rw [hba] at this; exact of_decide_eq_true this
            cases hbb : bb
            · have hb : ¬ p.b ∉ fx := by have := BB.out; rw [hbb] at this; exact of_decide_eq_false this
              have hst : stepR fx (rho fx (l.take k)) p = rho fx (l.take k) := if_neg fun h => hb h.2
              rw [hst] at RS
              have HM5 := Lib.hid hM5; have HS5 := Lib.hid hS5
              clear hst ha hb hba hbb hM5 hS5 hP5 BA BB
              go_wp2_with fail
              exact ⟨⟨k + 1, f5, by omega, by simp, HM5.out.mono (by omega), by rw [RS.out]; exact HI5.out, HK5.out, hU5, hV5, HS5.out, hW5⟩, by simp [RowKit.intOf]; omega⟩
            · have hb : p.b ∉ fx := by have := BB.out; rw [hbb] at this; exact of_decide_eq_true this
              have hst : stepR fx (rho fx (l.take k)) p = merge (rho fx (l.take k)) (rho fx (l.take k) p.a) (rho fx (l.take k) p.b) := if_pos ⟨ha, hb⟩
              rw [hst] at RS
              have ka : (f5 p.a).isSome = true := (HK5.out p.a).2 (keyB_iff.2 ⟨ha, p, by rw [take_snoc HP.out]; simp, .inl rfl⟩)
              have kb : (f5 p.b).isSome = true := (HK5.out p.b).2 (keyB_iff.2 ⟨hb, p, by rw [take_snoc HP.out]; simp, .inr rfl⟩)
              clear hst ha hb hba hbb BA BB
              iterate 4 go_step
              iterate 4 (with_reducible refine wpL_val (v := ?_) ?_ ?_ ?_; rotate_left; (· kernel_rfl); (· go_simp; try with_reducible rfl); conv => arg 5; simp only [Act.put, List.setIfInBounds_toArray, List.set_cons_zero, List.set_cons_succ])
              refine wpList_nil ?_
              have hne5 : wa.heap.size + 1 ≠ wa.heap.size := by omega
              have hc5 : 2 * k + 1 + 1 < maxLen := by unfold maxLen; omega
              have hI5 := HI5.out
              clear HI5
              iterate 4 go_step
              refine wp_region_ph [(7, .free [])] (by kernel_rfl) (by kernel_rfl) ?_
              replace hM5 : VM w5.drew wa.heap.size (im f5) (2 * k + 1 + 1) := ⟨hM5.ex⟩
              replace hS5 : VM w5.drew w1.heap.size (im (fixM fx)) j := ⟨hS5.ex⟩
              replace hU5 := hU5.drew
              replace hV5 := hV5.drew
              replace hP5 := hP5.drew
              replace hW5 := hW5.drew
              revert hM5 hS5 hU5 hV5 hP5 hW5 hI5 RS
              generalize w5.drew = w5
              generalize rho fx (l.take k) = R
              intro RS hI5 hM5 hS5 hU5 hV5 hP5 hW5
              have CE := Lib.hid (fun (u : World) (hS : u = w5 ∨ ∃ f', VM u wa.heap.size (im f') (2 * k + 1 + 1) ∧ QRt.Inv f' R ∧ (∀ x, (f' x).isSome = (f5 x).isSome) ∧ w5.grownBy u (some wa.heap.size)) => (show Box u wr.heap.size [.int .i64 p.a, .int .i64 p.b] 39 from by
                rcases hS with rfl | ⟨_, _, _, _, g⟩
                · exact hP5
                · exact keepB g hP5 (by omega)))
              refine Ph.one 3 (fun u => u = w5) (fun u => ∃ f', VM u wa.heap.size (im f') (2 * k + 1 + 1) ∧ QRt.Inv f' R ∧ (∀ x, (f' x).isSome = (f5 x).isSome) ∧ w5.grownBy u (some wa.heap.size)) (by rfl) rfl ?_
              simp only [List.drop_succ_cons, List.drop_zero, List.take_succ_cons, List.take_zero, Nat.reduceSub, Nat.sub_zero]
              iterate 2 (refine SeqO.val1 (v := ?_) (by rfl) (by rfl) (fun w1 hS => ?_) ?_; rotate_left; (· skip; go_simp; try with_reducible rfl); simp only [Act.put, List.setIfInBounds_toArray, List.set_cons_zero, List.set_cons_succ])
              iterate 1 (refine SeqO.val1 (v := ?_) (by rfl) (by rfl) (fun w1 hS => ?_) ?_; rotate_left; (· (have c0 := (CE.out w1 hS).cell 0; simp only [List.getElem?_cons_zero] at c0); go_simp; try with_reducible rfl); simp only [Act.put, List.setIfInBounds_toArray, List.set_cons_zero, List.set_cons_succ])
              refine SeqO.call1 (v := .int .i64 (R p.a)) (by rfl) (by rfl) (by rfl) cfR (by simp [Act.eval] <;> rfl) (fun u hR => ?_) ?_
              · subst hR
                refine (rootC u hM5 hI5 hU5 hne5 ka hc5).mono ?_
                rintro e w' ⟨rfl, f', a, b, c, d⟩
                exact ⟨rfl, f', a, b, c, d⟩
              simp only [Act.put, List.setIfInBounds_toArray, List.set_cons_zero, List.set_cons_succ]
              iterate 2 (refine SeqO.val1 (v := ?_) (by rfl) (by rfl) (fun w1 hS => ?_) ?_; rotate_left; (· skip; go_simp; try with_reducible rfl); simp only [Act.put, List.setIfInBounds_toArray, List.set_cons_zero, List.set_cons_succ])
              iterate 1 (refine SeqO.val1 (v := ?_) (by rfl) (by rfl) (fun w1 hS => ?_) ?_; rotate_left; (· (have c0 := (CE.out w1 hS).cell 1; simp only [List.getElem?_cons_zero, List.getElem?_cons_succ] at c0); go_simp; try with_reducible rfl); simp only [Act.put, List.setIfInBounds_toArray, List.set_cons_zero, List.set_cons_succ])
              refine SeqO.nil1 (by decide) fun w6 hR2 => ?_
              refine Ph.last ?_
              simp only [List.drop_succ_cons, List.drop_zero, List.take_succ_cons, List.take_zero, Nat.reduceSub, Nat.sub_zero]
              obtain ⟨f6, hM6, hI6, hK6, hg6⟩ := hR2
              have hS6 := keepV hg6 hS5 hnes.2.2
              have hU6 := keepB hg6 hU5 hnes.1
              have hV6 := keepB hg6 hV5 hnes.2.1
              have hW6 := belowG hW5 hg6 hW5.size (by omega)
              have hra := hI5.root p.a ka
              have hsa : (f6 (R p.a)).isSome := by rw [hK6, hra]; rfl
              clear CE hM5 hS5 hU5 hV5 hP5 hW5 hg6 hI5
              with_reducible refine wpL_call (ca := ?_) (args := ?_) ?_ ?_ cfR ?_ ?_
              rotate_left 2
              · kernel_rfl
              · rfl
              · simp [Act.eval] <;> rfl
              refine (rootC w6 hM6 hI6 hU6 hne5 (by rw [hK6]; exact kb) hc5).mono ?_
              rintro e w7 ⟨rfl, f7, hM7, hI7, hK7, hg7⟩
              refine ⟨_, rfl, ?_⟩
              conv => arg 5; simp only [Act.put, List.setIfInBounds_toArray, List.set_cons_zero, List.set_cons_succ]
              have hS7 := keepV hg7 hS6 hnes.2.2
              have hU7 := keepB hg7 hU6 hnes.1
              have hV7 := keepB hg7 hV6 hnes.2.1
              have hW7 := belowG hW6 hg7 hW6.size (by omega)
              have hKK : ∀ x, (f7 x).isSome = (f5 x).isSome := fun x => by rw [hK7, hK6]
              have fa : f7 (R p.a) = some (R p.a) := hI7.root p.a (by rw [hKK]; exact ka)
              have fb : f7 (R p.b) = some (R p.b) := hI7.root p.b (by rw [hKK]; exact kb)
              have rga := hI7.rng (R p.a) (by rw [fa]; rfl)
              have rgb := hI7.rng (R p.b) (by rw [fb]; rfl)
              have hJ := inv_join hI7 fa fb
              clear hM6 hI6 hU6 hS6 hV6 hW6 hg7 hK6 hK7 hra hsa hI7 ka kb
              revert RS fa fb rga rgb hJ
              generalize R p.a = x
              generalize R p.b = y
              intro RS fa fb rga rgb hJ
              have HS7 := Lib.hid hS7; have HM7 := Lib.hid hM7; have HJ := Lib.hid hJ; have HKK := Lib.hid hKK; have FA := Lib.hid fa; have FB := Lib.hid fb
              clear hS7 hM7 hJ hKK fa fb
              iterate 2 (with_reducible refine wpL_val (v := ?_) ?_ ?_ ?_; rotate_left; (· kernel_rfl); (· go_simp; try with_reducible rfl); conv => arg 5; simp only [Act.put, List.setIfInBounds_toArray, List.set_cons_zero, List.set_cons_succ])
              refine wpList_nil ?_
              have c7 := hU7.cell 0
              simp only [List.getElem?_cons_zero] at c7
              have wM : wfI (max x y) := wfI_small (by omega) (by omega)
              have sM : (f7 (max x y)).isSome = true := by
                rcases (by omega : max x y = x ∨ max x y = y) with e | e
                · rw [e, FA.out]; rfl
                · rw [e, FB.out]; rfl
              have SM := Lib.hid sM
              clear sM FA FB
              go_wp2_with (at_mapUpdate; refine wpL_put (T := 48) (mo := .tmp 69) (x := .tmp 72) (y := .tmp 75) (n := max x y) (v := .int .i64 (min x y)) (by rfl) (by rfl) (by rfl) (by rfl) (by rfl) HM7.out wM hc5 Try.underlying48 ?_; intro w8 hV8 hT8)
              rw [im_upd, if_pos (by rw [im_some]; exact SM.out)] at hV8
              have hg8 := hT8.grown
              have hU8 := keepB hg8 hU7 hnes.1
              have hV8' := keepB hg8 hV7 hnes.2.1
              have hS8 := keepV hg8 HS7.out hnes.2.2
              have hW8 := belowG hW7 hg8 hW7.size (by omega)
              exact ⟨⟨k + 1, _, by omega, by simp, hV8.mono (by omega), by rw [RS.out]; exact HJ.out, fun n => by rw [updI_some _ _ _ _ SM.out, HKK.out]; exact HK5.out n, hU8, hV8', hS8, hW8⟩, by simp [RowKit.intOf]; omega⟩
        · obtain rfl : k = n := by omega
          have t2 : decide ((k : Int) < (k : Int)) = false := decide_eq_false (by omega)
          rw [List.take_of_length_le (by omega)] at hI hK
          obtain ⟨wb, hwb⟩ : ∃ x, x = wr := ⟨_, rfl⟩
          subst hwb
          obtain ⟨r, hr⟩ : ∃ x, rho fx l = x := ⟨_, rfl⟩
          obtain ⟨L, hL⟩ : ∃ x, keysS fx l = x := ⟨_, rfl⟩
          have hLm : ∀ x, x ∈ L ↔ (f x).isSome = true := fun x => by rw [← hL, keysS_mem HO.out, hK x]
          have hLl : L.Pairwise (· < ·) := by rw [← hL]; exact keysS_lt fx l
          have hLn : L.length ≤ 4097 := by
            rw [← hL]
            exact Nat.le_trans (List.length_filter_le _ _) (by simp [nums])
          rw [hr] at hI
          have hans : ans = (L.filter fun n => decide (r n = n)).map fun x => L.filter fun n => decide (r n = x) := by rw [← HA.out, islS, rootsS, hL, hr]
          have HA2 := Lib.hid hans; have HLM := Lib.hid hLm; have HLL := Lib.hid hLl
          clear HA hL hr hK hV hS hans H HX HF HW HO hLm hLl
          have cU := hU.cell 0
          simp only [List.getElem?_cons_zero] at cU
          have cU2 := (hU.step ((Below.refl _ _).alloc (Nat.le_refl _) (.map #[] 0))).cell 0
          simp only [List.getElem?_cons_zero] at cU2
          go_wp2_with fail
          have SK := (Below.refl wb.heap.size wb).alloc (Nat.le_refl _) (.map #[] 0)
          have hMk := hM.step SK
          have hUk := hU.step SK
          have hGk := VM.made wb
          have hWk := hW.alloc hW.size (.map #[] 0)
          have hsk : wb.heap.size < (wb.alloc (.map #[] 0)).heap.size := by simp
          have hbU := hM.lt
          have hgU := hU.lt
          have hwb := hW.size
          clear SK hM hU hW cU cU2
          revert hMk hUk hGk hWk hsk
          generalize wb.alloc (.map #[] 0) = wk
          intro hMk hUk hGk hWk hsk
          refine (QKs.keysA (some wa.heap.size) wk).mono ?_
          rintro e w' ⟨rfl, rfl⟩
          go_wp2_with fail
          refine (QKs.sortedA wk hMk (by omega) HLL.out (fun x => ⟨fun hx => ⟨wf_rng (hI.rng x ((HLM.out x).1 hx)), by rw [im_some]; exact (HLM.out x).1 hx⟩, fun hx => (HLM.out x).2 (by rw [← im_some]; exact hx.2)⟩)).mono ?_
          rintro e wc ⟨v, rfl, hv, hSc⟩
          have hv' : OwnV wc wk.heap.size 3 v (L.map (.int .i64)) := by unfold OwnV; rw [List.length_map]; exact hv
          have hvl := hv'.lt
          have hvs := hv'.sl
          rw [List.length_map] at hvs
          obtain ⟨A', c', rfl, hsl, hfm, hcl⟩ := hvs
          have hMc := hMk.step hSc
          have hUc := hUk.step hSc
          have hGc := hGk.step hSc
          have hWc := hWk.trans (hSc.mono (by omega))
          have hsc := hSc.size
          have SL := Lib.hid hsl; have VL := Lib.hid hvl
          clear hv hv' hvl hsl hMk hUk hGk hWk hSc hfm
          go_wp2_with fail
          go_loopw [82] (fun i w3 => ∃ (q : Nat) (f' : Int → Option Int) (gm : Int → Option Value), q ≤ L.length ∧ i = .int .i64 (q : Int) ∧ VM w3 wa.heap.size (im f') (2 * k) ∧ QRt.Inv f' r ∧ (∀ x, (f' x).isSome = (f x).isSome) ∧ Box w3 (wa.heap.size + 1) [.map (some wa.heap.size)] 48 ∧ VM w3 wb.heap.size gm q ∧ GI w3 wc.heap.size gm r (L.take q) ∧ wc.heap.size ≤ w3.heap.size ∧ (∀ x, x < wc.heap.size → x ≠ wa.heap.size → x ≠ wb.heap.size → w3.heap[x]? = wc.heap[x]?) ∧ Below w.heap.size w w3) (fun i _ => L.length - (RowKit.intOf i).toNat)
          case atStart => exact ⟨0, f, fun _ => none, by omega, rfl, hMc, hI, fun _ => rfl, hUc, hGc, GI.start _ _ _, Nat.le_refl _, fun _ _ _ _ => rfl, hWc⟩
          case round =>
            clear hMc hUc hGc hWc hI
            obtain ⟨q, f', gm, hq, rfl, hM, hI, hK, hU, hG, hGI, hsz, hFr, hW⟩ := hrel
            by_cases hql : q < L.length
            · obtain ⟨x, hx⟩ : ∃ x, L[q]? = some x := ⟨_, List.getElem?_eq_getElem hql⟩
              obtain ⟨b, off, rfl, hb0, hsA⟩ := SL.out.2 (by omega)
              have hbl := (VL.out b rfl).1
              have z0 := hsA q (.int .i64 x) (by rw [List.getElem?_map, hx]; rfl)
              rw [← World.cell?_of_block (hFr b hb0 (by omega) (by omega))] at z0
              have t3 : decide ((q : Int) < (L.length : Int)) = true := decide_eq_true (by omega)
              have q0 : 0 ≤ (q : Int) ∧ (q : Int) < L.length := by omega
              have kx : (f' x).isSome = true := by rw [hK]; exact (HLM.out x).1 (List.mem_of_getElem? hx)
              have hne : wa.heap.size + 1 ≠ wa.heap.size := by omega
              have hcm : 2 * k < maxLen := by unfold maxLen; omega
              have HX := Lib.hid hx
              have HG := Lib.hid hG; have HGI := Lib.hid hGI; have HFr := Lib.hid hFr; have HK := Lib.hid hK
              clear hsA hx hG hGI hFr hK
              go_wp2_with fail
              refine (rootC wr hM hI hU hne kx hcm).mono ?_
              rintro e w4 ⟨rfl, f4, hM4, hI4, hK4, hg4⟩
              have hU4 := keepB hg4 hU hne
              have hW4 := belowG hW hg4 hW.size (by omega)
              clear z0
              go_wp2_with fail
              refine (rootC w4 hM4 hI4 hU4 hne (by rw [hK4]; exact kx) hcm).mono ?_
              rintro e w5 ⟨rfl, f5, hM5, hI5, hK5, hg5⟩
              have hrx : r x = r x := rfl
              have krx : (f' (r x)).isSome = true := by rw [hI.root x kx]; rfl
              have wrx := wf_rng (hI.rng _ krx)
              have hG5 := keepV hg5 (keepV hg4 HG.out (by omega)) (by omega)
              have hU5 := keepB hg5 hU4 hne
              have hW5 := belowG hW4 hg5 hW4.size (by omega)
              have hs4 := hg4.size
              have hs5 := hg5.size
              have hOw := (HGI.out.keep (w' := w5) fun g h1 h2 => (hg5.block g (by omega) (by simp; omega)).trans (hg4.block g h2 (by simp; omega))).at (r x)
              have hFg := Lib.hid (fun g (h : g < wr.heap.size) (h1 : g ≠ wa.heap.size) => (hg5.block g (by omega) (by simpa using h1)).trans (hg4.block g h (by simpa using h1)))
              have l5 := hG5.look wrx Try.underlying52 (zIs w5)
              have hK2 := Lib.hid (fun y => ((hK5 y).trans (hK4 y)).trans (HK.out y))
              clear hM4 hI4 hK4 hU4 hW4 hg4 hg5 hK5 hrx krx kx hM hI hU HK HG hW
              have hADD := Lib.hid (fun (w' : World) (v : Value) => GI.add (w' := w') (v := v) (n0 := w5.heap.size) (n := x) HGI.out (by omega))
              clear HGI
              revert l5 hOw hADD
              generalize (gm (r x)).getD (.slice none 0 0) = cv
              intro hOw l5 hADD
              have hcvb := hOw.lt
              have HCV := Lib.hid hcvb
              have S6 := (Below.refl w5.heap.size w5).alloc (Nat.le_refl _) (.cells [.int .i64 x].toArray 3)
              have hOw6 := hOw.step S6
              have hX6 : (w5.alloc (.cells [.int .i64 x].toArray 3)).cell? ⟨w5.heap.size, 0, none⟩ = some (.int .i64 x) := (Box.new (w := w5) (l := [.int .i64 x]) (T := 3) rfl).cell 0
              have hW6 := hW5.alloc hW5.size (.cells [.int .i64 x].toArray 3)
              have hM6 := hM5.step S6
              have hU6 := hU5.step S6
              have hG6 := hG5.step S6
              have hs6 := S6.size
              have hlen6 : (((L.take q).filter fun n => decide (r n = r x)).map (Value.int .i64)).length ≤ 1000000 := by
                rw [List.length_map]
                exact Nat.le_trans (List.length_filter_le _ _) (by rw [List.length_take]; omega)
              have hb6 : wc.heap.size ≤ (w5.alloc (.cells [.int .i64 x].toArray 3)).heap.size := by omega
              have hcq : q < maxLen := by unfold maxLen; omega
              have HF6 := Lib.hid (S6.block)
              clear hM5 hU5 hG5 hOw hW5 hcvb S6
              go_wp2_with (first | (at_builtin; refine wpV_app Try.underlying32 infoI (by rfl) (by decide) (by rfl) (.tmp 94) (.tmp 96) (by rfl) (by rfl) hOw6 (by rfl) hX6 (by rfl) hlen6 hb6 ?_; intro v7 w7 hO7 hG7 hL7 hB7; have hgne : some wb.heap.size ≠ cv.ownBlock := fun e => (by have := (HCV.out _ e.symm).1; omega); have hune : some wa.heap.size ≠ cv.ownBlock := fun e => (by have := (HCV.out _ e.symm).1; omega); have hvne : some (wa.heap.size + 1) ≠ cv.ownBlock := fun e => (by have := (HCV.out _ e.symm).1; omega); have hG7m := hG6.block (hG7.block _ hG6.lt hgne)) | (at_mapUpdate; refine wpL_put (T := 52) (mo := .tmp 86) (x := .tmp 89) (y := .tmp 97) (n := r x) (v := v7) (by rfl) (by rfl) (by rfl) (by rfl) (by rfl) hG7m wrx hcq Try.underlying52 ?_; intro w8 hV8 hT8))
              have g8 := hT8.grown
              have hs7 := hG7.size
              have hs8 := g8.size
              have hM8 := keepV g8 (hM6.block (hG7.block _ hM6.lt hune)) (by omega)
              have hU8 := keepB g8 ((hG7.block _ hU6.lt hvne).trans hU6) (by omega)
              have F8 : ∀ g, g < wr.heap.size → g ≠ wa.heap.size → g ≠ wb.heap.size → cv.ownBlock ≠ some g → w8.heap[g]? = wr.heap[g]? := fun g h1 h2 h3 h4 =>
                (g8.block g (by omega) (by simpa using h3)).trans ((hG7.block g (by omega) (fun e => h4 e.symm)).trans ((HF6.out g (by omega)).trans (hFg.out g h1 h2)))
              have hGI8 := hADD.out w8 v7 (hO7.block fun g hg hgl => g8.block g hgl (by have := (hO7.lt g hg).1; simp; omega)) (fun g h1 h2 h3 => F8 g h2 (by omega) (by omega) h3) (hL7.imp id fun h => ⟨_, h, by omega⟩)
              rw [← take_snoc HX.out] at hGI8
              have hW8 := Turned.below hT8 (by omega) (hW6.grown hG7 hW6.size fun y hy => by have := (HCV.out y hy).1; omega)
              exact ⟨⟨q + 1, f5, _, by omega, by simp, hM8, hI5, hK2.out, hU8, hV8.mono (by split <;> omega), hGI8, by omega, fun y h1 h2 h3 => (F8 y (by omega) h2 h3 (fun e => by have := (HCV.out y e).1; omega)).trans (HFr.out y h1 h2 h3), hW8⟩, by simp [RowKit.intOf]; omega⟩
            · obtain rfl : q = L.length := by omega
              have t3 : decide ((L.length : Int) < (L.length : Int)) = false := decide_eq_false (by omega)
              rw [List.take_of_length_le (Nat.le_refl _)] at hGI
              obtain ⟨wd, hwd⟩ : ∃ x, x = wr := ⟨_, rfl⟩
              subst hwd
              obtain ⟨rs, hrs⟩ : ∃ x, L.filter (fun n => decide (r n = n)) = x := ⟨_, rfl⟩
              have hrm : ∀ x, x ∈ rs ↔ wfI x ∧ (gm x).isSome = true := fun x => by
                rw [← hrs, List.mem_filter, hGI.dom]
                constructor
                · rintro ⟨h1, h2⟩
                  exact ⟨wf_rng (hI.rng x (by rw [hK]; exact (HLM.out x).1 h1)), x, h1, of_decide_eq_true h2⟩
                · rintro ⟨_, n, h1, rfl⟩
                  have h3 := hI.root n (by rw [hK]; exact (HLM.out n).1 h1)
                  exact ⟨(HLM.out _).2 (by rw [← hK, h3]; rfl), decide_eq_true (hI.top _ h3)⟩
              have hrl : rs.Pairwise (· < ·) := by rw [← hrs]; exact HLL.out.filter _
              have hrn : rs.length ≤ 4097 := by rw [← hrs]; exact Nat.le_trans (List.length_filter_le _ _) hLn
              have hA3 : ans = rs.map fun x => L.filter fun n => decide (r n = x) := by rw [HA2.out, hrs]
              have HA3 := Lib.hid hA3; have HRM := Lib.hid hrm; have HGI := Lib.hid hGI
              have hwd := hW.size
              clear hrs hrm hA3 HA2 HLM HLL SL VL hGI hM hI hK hU hFr hq hql
              go_wp2_with fail
              refine (QKs.keysB (some wb.heap.size) wd).mono ?_
              rintro e w' ⟨rfl, rfl⟩
              go_wp2_with fail
              refine (QKs.sortedB wd hG (by omega) hrl HRM.out).mono ?_
              rintro e we ⟨v, rfl, hv, hSe⟩
              have hvs := (show OwnV we wd.heap.size 3 v (rs.map (.int .i64)) from by unfold OwnV; rw [List.length_map]; exact hv).sl
              rw [List.length_map] at hvs
              obtain ⟨A2, c2', rfl, hsl, hfm, hcl2⟩ := hvs
              have hGe := hG.step hSe
              have hWe := hW.trans (hSe.mono (by omega))
              have GIe := Lib.hid (HGI.out.keep (w' := we) fun g _ hg => hSe.block g hg)
              have SL := Lib.hid hsl
              have hse := hSe.size
              clear hv hsl hG hW hSe HGI hfm hrl
              go_wp2_with fail
              go_loopw [22, 103] (fun ov i w4 => ∃ (q : Nat) (vs : List Value), q ≤ rs.length ∧ i = .int .i64 (q : Int) ∧ OwnV w4 we.heap.size 32 ov vs ∧ vs.length = q ∧ (∀ (t : Nat) (y : Int), t < q → rs[t]? = some y → vs[t]? = gm y) ∧ Below we.heap.size we w4) (fun _ i _ => rs.length - (RowKit.intOf i).toNat)
              case atStart => exact ⟨0, [], by omega, rfl, OwnV.nil _ _ _, rfl, fun t _ ht => absurd ht (by omega), Below.refl _ _⟩
              case round =>
                obtain ⟨q, vs, hq, rfl, hO, hvl, hat, hB⟩ := hrel
                by_cases hql : q < rs.length
                · obtain ⟨y, hy⟩ : ∃ y, rs[q]? = some y := ⟨_, List.getElem?_eq_getElem hql⟩
                  obtain ⟨b, off, rfl, hb0, hsA⟩ := SL.out.2 (by omega)
                  have z0 := hsA q (.int .i64 y) (by rw [List.getElem?_map, hy]; rfl)
                  rw [← World.cell?_of_block (hB.block b hb0)] at z0
                  have t4 : decide ((q : Int) < (rs.length : Int)) = true := decide_eq_true (by omega)
                  have q0 : 0 ≤ (q : Int) ∧ (q : Int) < rs.length := by omega
                  obtain ⟨wy, sy⟩ := (HRM.out y).1 (List.mem_of_getElem? hy)
                  obtain ⟨u, hu⟩ := Option.isSome_iff_exists.1 sy
                  obtain ⟨uA, un, uc, rfl⟩ : ∃ A n c, u = .slice A n c := by
                    obtain ⟨A, c, e, _⟩ := (GIe.out.own y u hu).sl
                    exact ⟨A, _, c, e⟩
                  have u1 : (Value.slice uA un uc).oneCell' = true := rfl
                  have l4 := (hGe.step hB).look wy Try.underlying52 (zIs wr)
                  rw [hu] at l4
                  simp only [Option.getD_some] at l4
                  have S5 := (Below.refl wr.heap.size wr).alloc (Nat.le_refl _) (.cells [.slice uA un uc].toArray 32)
                  have hO5 := hO.step S5
                  have hX5 : (wr.alloc (.cells [.slice uA un uc].toArray 32)).cell? ⟨wr.heap.size, 0, none⟩ = some (.slice uA un uc) := (Box.new (w := wr) (l := [.slice uA un uc]) (T := 32) rfl).cell 0
                  have hB5 := hB.alloc hB.size (.cells [.slice uA un uc].toArray 32)
                  have hl5 : vs.length ≤ 1000000 := by omega
                  have AT2 := Lib.hid (fun (t : Nat) (x : Int) (ht : t < q + 1) (hx : rs[t]? = some x) => (show (vs ++ [.slice uA un uc])[t]? = gm x from by
                    by_cases e : t < q
                    · rw [List.getElem?_append_left (by omega)]; exact hat t x e hx
                    · obtain rfl : t = q := by omega
                      rw [hy] at hx; cases hx
                      rw [List.getElem?_append_right (by omega), hvl, Nat.sub_self, hu]; rfl))
                  clear hsA hy wy sy hu S5 hO hB hat
                  go_wp2_with (at_builtin; refine wpV_app Try.underlying33 infoIs (by rfl) (by decide) (by rfl) (.tmp 107) (.tmp 111) (by rfl) (by rfl) hO5 (by rfl) hX5 u1 hl5 hB5.size ?_; intro v7 w7 hO7 hG7 hL7 hB7)
                  exact ⟨⟨q + 1, _, by omega, by simp, hO7, by simp [hvl], AT2.out, hB7 _ hB5⟩, by simp [RowKit.intOf]; omega⟩
                · obtain rfl : q = rs.length := by omega
                  have t4 : decide ((rs.length : Int) < (rs.length : Int)) = false := decide_eq_false (by omega)
                  go_wp2_with fail
                  refine bodyPost_ret (v := .tuple #[u22, .int .i64 0]) (by simp [results, Try.results16, go_sem]) rfl ⟨u22, rfl, ?_, hWe.trans (hB.mono (by omega))⟩
                  rw [HA3.out]
                  refine ⟨vs, hO.mono (by omega), by rw [hvl, List.length_map], fun i u g hu hg => ?_⟩
                  rw [List.getElem?_map] at hg
                  obtain ⟨y, hy, rfl⟩ := Option.map_eq_some_iff.1 hg
                  have hi := get_lt hy
                  rw [hat i y hi hy] at hu
                  exact ((GIe.out.own y u hu).step hB).mono (by omega)
end QIs
end Go.Proofs.Ytocelepohkbooaa
