/- A tree made; how many there are, how high it is: the walks. No condition. What is found in a tree, plainly. No condition. What is found in a tree: the walk. Condition: the tree is there; the question is asked of bounds alone. Integers of one's own sorted by the library: the contract turned. Condition: they are not many. Whom a bound meets: Meet, its walk. Condition: the tree is there. Pairs of entries whose bounds meet, plainly. No condition. Pairs of a tree: the walk. Condition: the tree is there, of at most 250 bounds. An answer that the document fixes: the walk. No condition. Arguments that are bounds and points, opened. No condition. Arguments that are slices of bounds, opened. No condition. A tree filled; is a number in a list: the walks. Condition: not too many bounds. -/
import Derived.Test.YtbcjnckejkjfeaaQTa
import Derived.Test.YtbcjnckejkjfeaaShf
import Derived.Test.YtbcjnckejkjfeaaBnd5
import Derived.Test.YtbcjnckejkjfeaaTSo
import Derived.Test.YtbcjnckejkjfeaaQAp
import Derived.Test.YtbcjnckejkjfeaaRows
import Derived.Test.YtbcjnckejkjfeaaSpec
import Derived.WalkKit
import Derived.ProofKit
import Derived.OpenShut
import Derived.ShutString
import Derived.ChangeOld
import Derived.Below
import Derived.Deep.Slices
import Derived.Deep.Fields
import Derived.Lib.SmallJoins
import Derived.Test.YtbcjnckejkjfeaaMemQ
namespace Go.Proofs.Ytbcjnckejkjfeaa
set_option linter.unusedVariables false
set_option linter.unusedSimpArgs false
open Go.RowKit Go.NP
namespace TNw
open TrP TrW TrC TrA TrF TrG TrX TrY TrK THg TCt QVl QVm TMp TrE TrI TAs TPu TDr TSt
set_option maxRecDepth 100000 in
set_option maxHeartbeats 2000000 in
theorem newNo {mg : Int} (w : World) (h : ¬ (0 ≤ mg ∧ mg ≤ 1048576)) : RetB Try.prog 8 #[.int .i64 mg] w (.tuple #[.pointer none, .int .i64 2]) := by
  unfold RetB
  by_cases h1 : mg < 0
  · have t1 : decide (mg < 0) = true := decide_eq_true h1
    go_enter Try.func8, Try.ntmps8
    go_wp2_with fail
    exact bodyPost_ret (v := .tuple #[.pointer none, .int .i64 2]) (by simp [results, Try.results8, go_sem, *]) rfl ⟨rfl, Below.refl _ _⟩
  · have t1 : decide (mg < 0) = false := decide_eq_false h1
    have t2 : decide (1048576 < mg) = true := decide_eq_true (by omega)
    go_enter Try.func8, Try.ntmps8
    go_wp2_with fail
    exact bodyPost_ret (v := .tuple #[.pointer none, .int .i64 2]) (by simp [results, Try.results8, go_sem, *]) rfl ⟨rfl, Below.refl _ _⟩
/-- A new tree lies in new blocks. -/
theorem made_ti {mg : Int} (w : World) (h : 0 ≤ mg ∧ mg ≤ 1048576) (w1 : World) (hw1 : w1 = w.alloc (.map #[] 0)) :
    ∃ S, TI (w1.alloc (.cells [.bool true, .int .i64 mg, .slice none 0 0, .slice none 0 0, .int .i64 (-1), .map (some w.heap.size)].toArray 58)) w1.heap.size mg [] S 0 ∧ ∀ k, S k → w.heap.size ≤ k := by
  have hs1 : w1.heap.size = w.heap.size + 1 := by rw [hw1]; simp
  have hv : VM w1 w.heap.size (im fun _ => none) 0 := by rw [hw1]; exact VM.made w
  have hB : Box (w1.alloc (.cells [.bool true, .int .i64 mg, .slice none 0 0, .slice none 0 0, .int .i64 (-1), .map (some w.heap.size)].toArray 58)) w1.heap.size [.bool true, .int .i64 mg, .slice none 0 0, .slice none 0 0, .int .i64 (-1), .map (some w.heap.size)] 58 := Box.new rfl
  have hS : Below w1.heap.size w1 (w1.alloc (.cells [.bool true, .int .i64 mg, .slice none 0 0, .slice none 0 0, .int .i64 (-1), .map (some w.heap.size)].toArray 58)) := (Below.refl _ _).alloc (Nat.le_refl _) _
  revert hB hS
  generalize w1.alloc (.cells [.bool true, .int .i64 mg, .slice none 0 0, .slice none 0 0, .int .i64 (-1), .map (some w.heap.size)].toArray 58) = w2
  intro hB hS
  let T : Tn := ⟨w1.heap.size, w1.heap.size, 0, 0, fun _ => ⟨bzero, bzero, 0, 0, 0, 0, 0⟩, -1, mg, .slice none 0 0, .map (some w.heap.size)⟩
  have hX : TX w2 T [] w.heap.size 0 (fun _ => none) := by
    refine ⟨.inl ⟨rfl, rfl, rfl, hB⟩, OwnV.nil _ _ _, rfl, hv.step hS, ?_, ?_, fun k hk => (by cases hk), Nat.zero_le _⟩
    · show w.heap.size ≠ w1.heap.size; omega
    · show w.heap.size ≠ w1.heap.size; omega
  refine ⟨own T w.heap.size, ⟨T, [], [], [], w.heap.size, 0, fun _ => none, ⟨⟨hX, .inl ⟨rfl, rfl, rfl⟩, List.nodup_nil, fun i hi => (by cases hi), Nat.le_refl _, Nat.le_refl _, Nat.le_refl _⟩, rfl, rfl, h, List.Perm.refl _, List.Pairwise.nil, fun n i => ⟨fun q => (by cases q), fun q => (by cases q.1)⟩, fun e he => (by cases he), Nat.le_refl _⟩, rfl⟩, fun k hk => ?_⟩
  rcases hk with q | q | q | q
  · have q : k = w1.heap.size := q; omega
  · have q : k = w1.heap.size := q; omega
  · cases q
  · omega
set_option maxRecDepth 100000 in
set_option maxHeartbeats 2000000 in
theorem newC {mg : Int} (w : World) (h : 0 ≤ mg ∧ mg ≤ 1048576) : Calls Try.prog 8 #[.int .i64 mg] w fun e w' => ∃ p S, e = .returned (.tuple #[.pointer (some ⟨p, 0, none⟩), .int .i64 0]) ∧ TI w' p mg [] S 0 ∧ (∀ k, S k → w.heap.size ≤ k) ∧ Below w.heap.size w w' := by
  have t1 : decide (mg < 0) = false := decide_eq_false (by omega)
  have t2 : decide (1048576 < mg) = false := decide_eq_false (by omega)
  have mm : (Instr.makeMap 56 none).run Try.prog w = .ok (.map (some w.heap.size)) (w.alloc (.map #[] 0)) := by kernel_rfl
  go_enter Try.func8, Try.ntmps8
  go_wp2_with fail
  obtain ⟨S, h1, h2⟩ := made_ti w h _ rfl
  have hs : (w.alloc (.map #[] 0)).heap.size = w.heap.size + 1 := by simp
  rw [hs] at h1
  exact bodyPost_ret (v := .tuple #[.pointer (some ⟨w.heap.size + 1, 0, none⟩), .int .i64 0]) (by simp [results, Try.results8, go_sem, *]) rfl ⟨w.heap.size + 1, S, rfl, h1, h2, ((Below.refl _ _).alloc (Nat.le_refl _) _).alloc (by simp) _⟩
/-- How many leaves there are, at so many steps. -/
theorem bal_lv : ∀ t : Tr, t.Bal → 2 ^ ((t.hgt.toNat + 1) / 2) ≤ t.lv.length ∧ 0 ≤ t.hgt
  | .leaf i, _ => ⟨by simp [Tr.hgt, Tr.lv], Int.le_refl _⟩
  | .node i l r, h => by
    obtain ⟨b1, b2, b3, b4⟩ := h
    obtain ⟨h1, p1⟩ := bal_lv l b1
    obtain ⟨h2, p2⟩ := bal_lv r b2
    simp only [Tr.hgt, Tr.lv, List.length_append]
    obtain ⟨x, hx⟩ : ∃ x : Nat, l.hgt = x := ⟨l.hgt.toNat, by omega⟩
    obtain ⟨y, hy⟩ : ∃ y : Nat, r.hgt = y := ⟨r.hgt.toNat, by omega⟩
    rw [hx] at h1 b3 b4 ⊢
    rw [hy] at h2 b3 b4 ⊢
    simp only [Int.toNat_natCast] at h1 h2
    refine ⟨?_, by omega⟩
    have key : ∀ a b : Nat, b ≤ a → a ≤ b + 1 → 2 ^ ((a + 1 + 1) / 2) ≤ 2 ^ ((a + 1) / 2) + 2 ^ ((b + 1) / 2) := fun a b hab hba => by
      by_cases e : a % 2 = 0
      · have e1 : (a + 1 + 1) / 2 = a / 2 + 1 := by omega
        have e2 : (a + 1) / 2 = a / 2 := by omega
        have e3 : (b + 1) / 2 = a / 2 := by omega
        rw [e1, e2, e3, Nat.pow_succ]; omega
      · have e1 : (a + 1 + 1) / 2 = (a + 1) / 2 := by omega
        rw [e1]; exact Nat.le_add_right _ _
    rcases Nat.le_total y x with hle | hle
    · have e : (1 + max (x : Int) (y : Int)).toNat = x + 1 := by omega
      rw [e]
      have := key x y hle (by omega)
      omega
    · have e : (1 + max (x : Int) (y : Int)).toNat = y + 1 := by omega
      rw [e]
      have := key y x hle (by omega)
      omega
/-- How high a tree of so many may be. -/
def HgtOK (n : Nat) (h : Int) : Prop := 0 ≤ h ∧ (n < 2 → h = 0) ∧ (0 < n → 2 ^ ((h.toNat + 1) / 2) ≤ n)
theorem hgt_ok {t : Tr} (h : t.Bal) : HgtOK t.lv.length t.hgt := by
  obtain ⟨h1, h2⟩ := bal_lv t h
  refine ⟨h2, fun hn => ?_, fun _ => h1⟩
  cases t with
  | leaf i => rfl
  | node i l r =>
    have a1 := (bal_lv l h.1).1
    have a2 := (bal_lv r h.2.1).1
    have c1 : 0 < 2 ^ ((l.hgt.toNat + 1) / 2) := Nat.pow_pos (by omega)
    have c2 : 0 < 2 ^ ((r.hgt.toNat + 1) / 2) := Nat.pow_pos (by omega)
    simp only [Tr.lv, List.length_append] at hn
    omega
theorem ti_len {w : World} {p K : Nat} {mg : Int} {L : List En} {T : Tn} {F al lv : List Int} {b c : Nat} {pl : Int → Option Int} (h : TI0 w p mg L K T F al lv b c pl) : lv.length = L.length := by have := h.perm.length_eq; rwa [List.length_map] at this
set_option maxRecDepth 100000 in
set_option maxHeartbeats 2000000 in
theorem lenC {p K : Nat} {mg : Int} {L : List En} {S : Nat → Prop} (w : World) (h : TI w p mg L S K) : RetB Try.prog 17 #[.pointer (some ⟨p, 0, none⟩)] w (.int .i64 (L.length : Nat)) := by
  obtain ⟨T, F, al, lv, b, c, pl, h, rfl⟩ := h
  have c5 : w.cell? ⟨p, 5, none⟩ = some (.map (some b)) := by have := TO.mpc h.ts.tx.to; rw [h.p_, h.ts.tx.mp] at this; exact this
  have hv := h.ts.tx.vm
  have hL : (L.map (·.n)).Pairwise (· < ·) := List.pairwise_map.2 h.rise
  have hm : ∀ x, x ∈ L.map (·.n) ↔ wfI x ∧ (im pl x).isSome = true := fun x => by
    rw [im_some, List.mem_map]
    constructor
    · rintro ⟨e, he, rfl⟩
      obtain ⟨a, ha, _⟩ := h.look_in (isIn_iff.2 ⟨e, he, rfl⟩)
      exact ⟨wf_rng (h.rng e he), by rw [ha]; rfl⟩
    · rintro ⟨_, hx⟩
      obtain ⟨i, hi⟩ := Option.isSome_iff_exists.1 hx
      obtain ⟨h1, h2⟩ := (h.pls x i).1 hi
      exact ⟨_, h.mem h1, h2⟩
  have hp := h.lt
  have hl : (L.map (·.n)).length = L.length := List.length_map _
  unfold RetB
  rw [← hl]
  clear h
  go_enter Try.func17, Try.ntmps17
  go_wp2_with (at_len; refine wpL_mlen (by rfl) _ (by rfl) (by rfl) hv Try.underlying56 hL hm ?_)
  exact bodyPost_ret (v := .int .i64 ((L.map (·.n)).length : Nat)) (by simp [results, Try.results17, go_sem]) rfl ⟨rfl, Below.refl _ _⟩
set_option maxRecDepth 100000 in
set_option maxHeartbeats 2000000 in
theorem heightC {p K : Nat} {mg : Int} {L : List En} {S : Nat → Prop} (w : World) (h : TI w p mg L S K) : Calls Try.prog 18 #[.pointer (some ⟨p, 0, none⟩)] w fun e w' => ∃ h, e = .returned (.int .i64 h) ∧ HgtOK L.length h ∧ Below w.heap.size w w' := by
  obtain ⟨T, F, al, lv, b, c, pl, h, rfl⟩ := h
  obtain rfl := h.p_
  have hl := ti_len h
  have c0 := TO.madec h.ts.tx.to
  have c4 := TO.topc h.ts.tx.to
  have hp := h.lt
  rcases h.ts.sh with ⟨h1, h2, h3⟩ | ⟨s, h1, h2, h3, h4, h5, h6⟩
  · rw [h1] at c4
    have u1 : ((-1 : Int) == -1) = true := by decide
    have hL : L.length = 0 := by rw [← hl, h3]; rfl
    have HO := Lib.hid (show HgtOK L.length 0 from ⟨Int.le_refl _, fun _ => rfl, fun q => by omega⟩)
    clear h
    go_enter Try.func18, Try.ntmps18
    go_wp2_with fail
    exact bodyPost_ret (v := .int .i64 0) (by simp [results, Try.results18, go_sem]) rfl ⟨0, rfl, HO.out, Below.refl _ _⟩
  · have hr := h.ts.rng s.ix (List.mem_append_left _ (h5.mem_iff.1 s.ix_all))
    obtain ⟨k, hk⟩ : ∃ n : Nat, s.ix = n := ⟨s.ix.toNat, by omega⟩
    rw [h4, hk] at c4
    have u1 : ((k : Int) == -1) = false := by simp only [beq_eq_false_iff_ne, ne_eq]; omega
    have hT : TN w T := by
      rcases h.ts.tx.to with ⟨q, _⟩ | q
      · omega
      · exact q
    have kN : k < T.N := by omega
    have c2 := hT.nodes
    have ch := hT.cell kN (j := 16) rfl
    have hg : (T.m k).h = s.hgt := by rw [← hk]; exact Fit.hgt h2
    rw [hg] at ch
    have k0 : 0 ≤ (k : Int) ∧ (k : Int) < T.N := by omega
    have hgl := (TN.lt hT).2
    have HO := Lib.hid (show HgtOK L.length s.hgt from by rw [← hl, ← h6.length_eq]; exact hgt_ok h3)
    clear h hT h1 h2 h3 h5 h6
    go_enter Try.func18, Try.ntmps18
    go_wp2_with fail
    refine wp_region_ph [(11, .free [])] (by kernel_rfl) (by kernel_rfl) ?_
    refine Ph.belowd ?_
    simp only [List.drop_succ_cons, List.drop_zero, List.take_succ_cons, List.take_zero, Nat.reduceSub, Nat.sub_zero]
    iterate 11 (refine SeqO.val (v := ?_) (by rfl) (by rfl) (fun w1 hS => ?_) ?_; rotate_left; (· obtain ⟨hc, hcf⟩ := bcell hS; go_simp; try with_reducible rfl); simp only [Act.put, List.setIfInBounds_toArray, List.set_cons_zero, List.set_cons_succ])
    refine SeqO.nil0 fun w2 hS2 => ?_
    refine Ph.last ?_
    simp only [List.drop_succ_cons, List.drop_zero, List.take_succ_cons, List.take_zero, Nat.reduceSub, Nat.sub_zero]
    go_wp2_with fail
    exact bodyPost_ret (v := .int .i64 s.hgt) (by simp [results, Try.results18, go_sem]) rfl ⟨s.hgt, rfl, HO.out, hS2⟩
end TNw
end Go.Proofs.Ytbcjnckejkjfeaa
namespace Go.NP
set_option linter.unusedVariables false
set_option linter.unusedSimpArgs false
namespace TFp
open TrP TrP.Tr TrE
/-- What comes of a tree, the right one of two first. -/
def outT (m : M) (q : Bd → Bool) : Tr → List Int
  | leaf i => if q (m i).fat then (if q (m i).b then [(m i).n] else []) else []
  | node i l r => if q (m i).fat then outT m q r ++ outT m q l else []
theorem out_no {m : M} {q : Bd → Bool} {t : Tr} (h : q (m t.ix).fat = false) : outT m q t = [] := by
  cases t with
  | leaf i => unfold outT; rw [if_neg (by simpa [Tr.ix] using h)]
  | node i l r => unfold outT; rw [if_neg (by simpa [Tr.ix] using h)]
theorem out_two {m : M} {q : Bd → Bool} {i : Int} {l r : Tr} (h : q (m i).fat = true) : outT m q (node i l r) = outT m q r ++ outT m q l := by rw [outT, if_pos h]
theorem out_yes {m : M} {q : Bd → Bool} {i : Int} (h : q (m i).fat = true) (h2 : q (m i).b = true) : outT m q (leaf i) = [(m i).n] := by unfold outT; rw [if_pos h, if_pos h2]
theorem out_nay {m : M} {q : Bd → Bool} {i : Int} (h : q (m i).fat = true) (h2 : q (m i).b = false) : outT m q (leaf i) = [] := by unfold outT; rw [if_pos h, if_neg (by simp [h2])]
theorem out_len {m : M} {q : Bd → Bool} : ∀ t : Tr, (outT m q t).length ≤ t.all.length
  | leaf i => by unfold outT; split <;> (try split) <;> simp [Tr.all]
  | node i l r => by
    have h1 := out_len (m := m) (q := q) l; have h2 := out_len (m := m) (q := q) r
    unfold outT; split
    · simp only [List.length_append, Tr.all, List.length_cons]; omega
    · simp
/-- It is what the leaves' bounds tell. -/
theorem out_perm {m : M} {q : Bd → Bool} (hq : ∀ F b, holds F b = true → q b = true → q F = true) : ∀ {t : Tr}, Fit m t → (outT m q t).Perm ((t.lv.filter fun i => q (m i).b).map fun i => (m i).n)
  | leaf i, h => by
    cases h1 : q (m i).fat with
    | false =>
      rw [out_no (t := leaf i) h1]
      have : q (m i).b = false := by
        cases h2 : q (m i).b with
        | false => rfl
        | true => rw [hq _ _ h.2 h2] at h1; cases h1
      simp [Tr.lv, this]
    | true =>
      cases h2 : q (m i).b with
      | false => rw [out_nay h1 h2]; simp [Tr.lv, h2]
      | true => rw [out_yes h1 h2]; simp [Tr.lv, h2]
  | node i l r, h => by
    cases h1 : q (m i).fat with
    | false =>
      rw [out_no (t := node i l r) h1]
      have : (node i l r).lv.filter (fun i => q (m i).b) = [] := List.filter_eq_nil_iff.2 fun j hj hb => by
        have h3 : q (m i).fat = true := hq _ _ (Fit.under h j hj) hb
        rw [h1] at h3; cases h3
      rw [this]; exact List.Perm.refl _
    | true =>
      rw [out_two h1]
      rw [show (node i l r).lv = l.lv ++ r.lv from rfl, List.filter_append, List.map_append]
      exact List.perm_append_comm.trans ((out_perm hq h.2.2.1).append (out_perm hq h.2.2.2))
/-- What is still to be looked at: a place of a tree, or none. -/
def ixo : Option Tr → Int
  | none => -1
  | some t => t.ix
def szo : Option Tr → Nat
  | none => 1
  | some t => t.all.length
def outO (m : M) (q : Bd → Bool) : Option Tr → List Int
  | none => []
  | some t => outT m q t
def rest (m : M) (q : Bd → Bool) (ss : List (Option Tr)) : List Int := (ss.reverse.map (outO m q)).flatten
theorem rest_snoc (m : M) (q : Bd → Bool) (ss : List (Option Tr)) (x : Option Tr) : rest m q (ss ++ [x]) = outO m q x ++ rest m q ss := by unfold rest; simp
theorem rest_two {m : M} {q : Bd → Bool} {ss : List (Option Tr)} {i : Int} {l r : Tr} (h : q (m i).fat = true) : rest m q (ss ++ [some l, some r]) = rest m q (ss ++ [some (node i l r)]) := by
  rw [show ss ++ [some l, some r] = (ss ++ [some l]) ++ [some r] by simp, rest_snoc, rest_snoc, rest_snoc]
  show outT m q r ++ (outT m q l ++ _) = outT m q (node i l r) ++ _
  rw [out_two h, List.append_assoc]
def szs (ss : List (Option Tr)) : Nat := (ss.map szo).sum
theorem szo_pos (x : Option Tr) : 1 ≤ szo x := by
  cases x with
  | none => exact Nat.le_refl _
  | some t => cases t <;> simp [szo, Tr.all]
theorem szs_snoc (ss : List (Option Tr)) (x : Option Tr) : szs (ss ++ [x]) = szs ss + szo x := by unfold szs; simp
theorem szs_two (ss : List (Option Tr)) (i : Int) (l r : Tr) : szs (ss ++ [some l, some r]) + 1 = szs (ss ++ [some (node i l r)]) := by
  unfold szs; simp [szo, Tr.all]; omega
theorem szs_len : ∀ ss : List (Option Tr), ss.length ≤ szs ss
  | [] => Nat.le_refl _
  | x :: r => by
    have := szs_len r; have := szo_pos x
    show r.length + 1 ≤ szo x + szs r
    omega
/-- An item hangs right. -/
def ItOK (m : M) (N : Nat) : Option Tr → Prop
  | none => True
  | some t => (∃ u, Rep m u t) ∧ Fit m t ∧ ∀ i ∈ t.all, 0 ≤ i ∧ i < N
theorem ItOK.two {m : M} {N : Nat} {i : Int} {l r : Tr} (h : ItOK m N (some (node i l r))) : ItOK m N (some l) ∧ ItOK m N (some r) := by
  obtain ⟨⟨u, h1⟩, h2, h3⟩ := h
  exact ⟨⟨⟨_, h1.2.2.2.2.1⟩, h2.2.2.1, fun k hk => h3 k (List.mem_cons_of_mem _ (List.mem_append_left _ hk))⟩, ⟨_, h1.2.2.2.2.2⟩, h2.2.2.2, fun k hk => h3 k (List.mem_cons_of_mem _ (List.mem_append_right _ hk))⟩
end TFp
end Go.NP
namespace Go.Proofs.Ytbcjnckejkjfeaa
set_option linter.unusedVariables false
set_option linter.unusedSimpArgs false
open Go.RowKit Go.NP
namespace TFd
open TrP TrW TrC TrA TrF TrG TrX TrY TrK THg TCt QVl TrE TrI TFp
theorem cfS (args : Array Value) (w1 : World) : (callFunc 44 args).run Try.prog w1 = .ok (.enter 44 args) w1 := enters Try.func44 (by kernel_rfl) (by kernel_rfl) args w1
section
variable {ops : Array Oper} {r : List Oper} {o : Oper} {a : Act} {Q : Exit → Act → World → Prop} {w : World} {base g : Nat} {v t t2 : Value} {l : List Value} {S T : TypeId} {z : Value} {by_ : Nat}
/-- Two appended. -/
theorem wpV_app2 (hu : Try.prog.underlying S = some (.slice T)) (hi : (Try.prog.info? T).map (fun i => (i.zero, i.size, i.bytes)) = some (some z, 1, by_)) (hzs : z.cells.size = 1) (hby : by_ ≤ 24) (hgd : o.guard = none) (s x : Operand)
    (ho : o.op = .call { callee := .builtin .append, args := #[s, x], argTypes := #[S, S] }) (hs : a.eval s = v) (hown : OwnV w base T v l) (hx : a.eval x = .slice (some ⟨g, 0, none⟩) 2 2) (hat : w.cell? ⟨g, 0, none⟩ = some t) (hat2 : w.cell? ⟨g, 1, none⟩ = some t2) (h1 : t.oneCell' = true) (h2 : t2.oneCell' = true) (hl : l.length ≤ 1000000) (hb : base ≤ w.heap.size)
    (h : ∀ v' w', OwnV w' base T v' (l ++ [t, t2]) → w.grownBy w' v.ownBlock → (v'.ownBlock = v.ownBlock ∨ v'.ownBlock = some w.heap.size) → (∀ w0, Below base w0 w → Below base w0 w') → wpList Try.prog ops Q r (a.put o.dst v') w') : wpList Try.prog ops Q (o :: r) a w := by
  obtain ⟨i0, hi0, hz0, hz1, hz2⟩ := info_parts hi
  refine wpList_append_own_at _ hgd s x S ho base T i0 z 1 by_ hu hi0 hz0 hz1 hz2 hzs (by decide) v l.length l hs hown ⟨g, 0, none⟩ 2 2 [t, t2] hx rfl (fun j u hj => ?_) (fun u hu => ?_) (by unfold maxLen; omega) ?_ hb ?_
  · have hj0 : j < 2 := get_lt hj
    rcases (by omega : j = 0 ∨ j = 1) with rfl | rfl
    · cases hj; exact hat
    · cases hj; exact hat2
  · rcases List.mem_cons.1 hu with rfl | hu
    · exact h1
    · obtain rfl := List.mem_singleton.1 hu; exact h2
  · have := Nat.mul_le_mul_left (l.length + 2) hby; omega
  · intro v' w' h1 h2 _ h4
    refine h v' w' ?_ h2 h4 fun w0 hB => hB.grown h2 hb fun k hk => (hown.lt k hk).1
    unfold OwnV
    rw [List.length_append]
    exact h1
end
/-- While it is looked for. -/
structure FS (B : Nat) (m : M) (N K : Nat) (q : Bd → Bool) (R : List Int) (wr : World) (o s : Value) (ss : List (Option Tr)) (ol : List Int) : Prop where
  st : OwnV wr B 3 s (iv (ss.map ixo))
  ou : OwnV wr B 3 o (iv ol)
  ne : ∀ k, s.ownBlock = some k → o.ownBlock ≠ some k
  items : ∀ x ∈ ss, ItOK m N x
  eq : ol ++ rest m q ss = R
  small : szs ss ≤ K
theorem iv_snoc (l : List Int) (x : Int) : iv (l ++ [x]) = iv l ++ [.int .i64 x] := by simp [iv]
theorem iv_append (l m : List Int) : iv (l ++ m) = iv l ++ iv m := List.map_append
theorem iv_two (l : List Int) (x y : Int) : iv (l ++ [x, y]) = iv l ++ [.int .i64 x, .int .i64 y] := by simp [iv]
/-- The measure: what is still to be looked at. -/
def PF (B : Nat) (m : M) (N K : Nat) (q : Bd → Bool) (R : List Int) (wr : World) (o s : Value) (n : Nat) : Prop := ∃ ss ol, FS B m N K q R wr o s ss ol ∧ szs ss = n
theorem PF.ex {B : Nat} {m : M} {N K : Nat} {q : Bd → Bool} {R : List Int} {wr : World} {o s : Value} {n : Nat} (h : PF B m N K q R wr o s n) : ∃ ss ol, FS B m N K q R wr o s ss ol ∧ szs ss = TrG.least (PF B m N K q R wr o s) := (TrG.least_ok h).1
theorem PF.le {B : Nat} {m : M} {N K : Nat} {q : Bd → Bool} {R : List Int} {wr : World} {o s : Value} {ss : List (Option Tr)} {ol : List Int} (h : FS B m N K q R wr o s ss ol) : TrG.least (PF B m N K q R wr o s) ≤ szs ss := (TrG.least_ok (P := PF B m N K q R wr o s) (n := szs ss) ⟨ss, ol, h, rfl⟩).2 _ ⟨ss, ol, h, rfl⟩
/-- The stack, when something is on it. -/
theorem FS.pop {B : Nat} {m : M} {N K : Nat} {q : Bd → Bool} {R : List Int} {wr : World} {o s : Value} {ss : List (Option Tr)} {x : Option Tr} {ol : List Int} (h : FS B m N K q R wr o s (ss ++ [x]) ol) :
    ∃ g cap, s = .slice (some ⟨g, 0, none⟩) (ss.length + 1) cap ∧ g < wr.heap.size ∧ ss.length + 1 ≤ cap ∧ wr.cell? ⟨g, ss.length, none⟩ = some (.int .i64 (ixo x)) ∧ OwnV wr B 3 (.slice (some ⟨g, 0, none⟩) ss.length cap) (iv (ss.map ixo)) := by
  have hst := h.st
  rw [List.map_append, List.map_cons, List.map_nil, iv_snoc] at hst
  have hl : (iv (ss.map ixo)).length = ss.length := by rw [iv_len, List.length_map]
  obtain ⟨A, cap, e, hs, hA, hc⟩ := hst.sl
  rw [List.length_append, List.length_singleton, hl] at e hs hc
  rcases hA with ⟨_, _, e2⟩ | ⟨g, rfl⟩
  · simp at e2
  · obtain ⟨b, off, e3, hb, hcell⟩ := hs.2 (by omega)
    cases e3
    refine ⟨g, cap, e, hb, hc, ?_, ?_⟩
    · have := hcell ss.length (.int .i64 (ixo x)) (by rw [List.getElem?_append_right (by omega), hl, Nat.sub_self]; rfl)
      rwa [Nat.zero_add] at this
    · rw [e] at hst
      exact OwnV.cut hst hl
theorem FS.step {B : Nat} {m : M} {N K : Nat} {q : Bd → Bool} {R : List Int} {wr w' : World} {o s : Value} {ss : List (Option Tr)} {ol : List Int} (h : FS B m N K q R wr o s ss ol) (hS : Below wr.heap.size wr w') : FS B m N K q R w' o s ss ol := ⟨h.st.step hS, h.ou.step hS, h.ne, h.items, h.eq, h.small⟩
/-- What tells nothing is taken off. -/
theorem FS.drop {B : Nat} {m : M} {N K g cap n : Nat} {q : Bd → Bool} {R : List Int} {wr : World} {o : Value} {ss : List (Option Tr)} {x : Option Tr} {ol : List Int} (h : FS B m N K q R wr o (.slice (some ⟨g, 0, none⟩) (n + 1) cap) (ss ++ [x]) ol) (hp : OwnV wr B 3 (.slice (some ⟨g, 0, none⟩) n cap) (iv (ss.map ixo))) (hx : outO m q x = []) :
    FS B m N K q R wr o (.slice (some ⟨g, 0, none⟩) n cap) ss ol ∧ szs ss < szs (ss ++ [x]) := by
  have h1 := szs_snoc ss x; have h2 := szo_pos x; have h3 := h.small
  refine ⟨⟨hp, h.ou, fun k hk => h.ne k hk, fun y hy => h.items y (List.mem_append_left _ hy), ?_, by omega⟩, by omega⟩
  have := h.eq
  rw [rest_snoc, hx] at this
  exact this
/-- One more is found. -/
theorem FS.found {B : Nat} {m : M} {N K g cap n : Nat} {q : Bd → Bool} {R : List Int} {wr w' : World} {o o' : Value} {ss : List (Option Tr)} {x : Option Tr} {ol : List Int} {y : Int} (h : FS B m N K q R wr o (.slice (some ⟨g, 0, none⟩) (n + 1) cap) (ss ++ [x]) ol) (hp : OwnV w' B 3 (.slice (some ⟨g, 0, none⟩) n cap) (iv (ss.map ixo))) (ho : OwnV w' B 3 o' (iv (ol ++ [y]))) (hn : o'.ownBlock ≠ some g) (hx : outO m q x = [y]) :
    FS B m N K q R w' o' (.slice (some ⟨g, 0, none⟩) n cap) ss (ol ++ [y]) ∧ szs ss < szs (ss ++ [x]) := by
  have h1 := szs_snoc ss x; have h2 := szo_pos x; have h3 := h.small
  refine ⟨⟨hp, ho, fun k hk => ?_, fun y hy => h.items y (List.mem_append_left _ hy), ?_, by omega⟩, by omega⟩
  · have : g = k := by simpa [Value.ownBlock] using hk
    rw [← this]; exact hn
  · have := h.eq
    rw [rest_snoc, hx] at this
    rw [List.append_assoc]; exact this
/-- Two are put on for one. -/
theorem FS.push {B : Nat} {m : M} {N K : Nat} {q : Bd → Bool} {R : List Int} {wr w' : World} {o s s' : Value} {ss : List (Option Tr)} {i : Int} {l r : Tr} {ol : List Int} (h : FS B m N K q R wr o s (ss ++ [some (.node i l r)]) ol) (hs : OwnV w' B 3 s' (iv ((ss ++ [some l, some r]).map ixo))) (ho : OwnV w' B 3 o (iv ol)) (hn : ∀ k, s'.ownBlock = some k → o.ownBlock ≠ some k) (hx : q (m i).fat = true) :
    FS B m N K q R w' o s' (ss ++ [some l, some r]) ol ∧ szs (ss ++ [some l, some r]) < szs (ss ++ [some (.node i l r)]) := by
  have h1 := szs_two ss i l r; have h3 := h.small
  have hi := (h.items _ (List.mem_append_right _ (List.mem_singleton.2 rfl))).two
  refine ⟨⟨hs, ho, hn, fun y hy => ?_, by rw [rest_two hx]; exact h.eq, by omega⟩, by omega⟩
  rcases List.mem_append.1 hy with hy | hy
  · exact h.items y (List.mem_append_left _ hy)
  · rcases List.mem_cons.1 hy with rfl | hy
    · exact hi.1
    · rw [List.mem_singleton.1 hy]; exact hi.2
/-- What the library's Sort does to integers of one's own. -/
def SortOK : Prop := ∀ (base : Nat) (v : Value) (l : List Int) (w : World), OwnV w base 3 v (iv l) → l.length ≤ 100000 → Calls Try.prog 44 #[v] w fun e w' => e = .returned (.tuple #[]) ∧ (∃ r : List Int, r.Perm l ∧ r.Pairwise (· ≤ ·) ∧ OwnV w' base 3 v (iv r)) ∧ ∀ w0, Below base w0 w → Below base w0 w'
set_option maxRecDepth 100000 in
set_option maxHeartbeats 8000000 in
theorem findC (hsrt : SortOK) {T : Tn} {K fid : Nat} {ca : Array Value} {q : Bd → Bool} {x0 : Option Tr} (w : World) (htop : w.cell? ⟨T.p, 4, none⟩ = some (.int .i64 (ixo x0))) (hp : T.p < w.heap.size) (hT : 0 < T.N → TN w T) (hI : ItOK T.m T.N x0) (hK : szo x0 ≤ K) (hK2 : K ≤ 90000)
    (cff : ∀ args w1, (callFunc fid args).run Try.prog w1 = .ok (.enter fid args) w1) (hq : ∀ (b : Bd) (u : World), Below w.heap.size w u → RetB Try.prog fid (#[.agg #[.int .i64 b.lo.x, .int .i64 b.lo.y, .int .i64 b.lo.z, .int .i64 b.hi.x, .int .i64 b.hi.y, .int .i64 b.hi.z]] ++ ca) u (.bool (q b))) :
    Calls Try.prog 28 #[.pointer (some ⟨T.p, 0, none⟩), .func (.func fid) #[] ca] w fun e w' => (∃ v, e = .returned v ∧ ∃ r : List Int, r.Perm (outO T.m q x0) ∧ r.Pairwise (· ≤ ·) ∧ OwnV w' w.heap.size 3 v (iv r)) ∧ Below w.heap.size w w' := by
  obtain ⟨R, hR⟩ : ∃ R, outO T.m q x0 = R := ⟨_, rfl⟩
  have hRl : R.length ≤ K := by
    rw [← hR]
    cases x0 with
    | none => exact Nat.zero_le _
    | some t => exact Nat.le_trans (out_len t) hK
  rw [hR]
  have HTN := Lib.hid hT; have HI := Lib.hid hI; have HQ := Lib.hid hq
  clear hT hI hq
  go_enter Try.func28, Try.ntmps28
  go_wp2_with fail
  have hW1 : Below w.heap.size w (w.alloc (.cells [.int .i64 (ixo x0)].toArray 3)) := (Below.refl _ _).alloc (Nat.le_refl _) _
  have F1 : FS w.heap.size T.m T.N K q R (w.alloc (.cells [.int .i64 (ixo x0)].toArray 3)) (.slice none 0 0) (.slice (some ⟨w.heap.size, 0, none⟩) 1 1) [x0] [] :=
    ⟨QVl.own_new w 3 [.int .i64 (ixo x0)] (by simp), OwnV.nil _ _ _, fun k _ e => (by cases e), fun x hx => by rw [List.mem_singleton.1 hx]; exact HI.out, by rw [show [x0] = [] ++ [x0] from rfl, rest_snoc]; simpa [rest] using hR, by show szo x0 + 0 ≤ K; omega⟩
  revert hW1 F1
  generalize w.alloc (.cells [.int .i64 (ixo x0)].toArray 3) = w1
  intro hW1 F1
  obtain ⟨B, hB⟩ : ∃ B, w.heap.size = B := ⟨_, rfl⟩
  rw [hB] at F1 ⊢
  go_loopw [5, 6] (fun o s wr => (∃ n, PF B T.m T.N K q R wr o s n) ∧ Below w.heap.size w wr) (fun o s wr => TrG.least (PF B T.m T.N K q R wr o s))
  case atStart => exact ⟨⟨_, _, _, F1, rfl⟩, hW1⟩
  case round =>
    clear hW1 F1 w1
    obtain ⟨⟨n0, hp0⟩, hS⟩ := hrel
    obtain ⟨ss, ol, hF, hlen⟩ := hp0.ex
    clear hp0
    have hBw : B ≤ wr.heap.size := by rw [← hB]; exact hS.size
    have HF := Lib.hid hF; have HLEN := Lib.hid hlen; have HSr := Lib.hid hS
    clear hlen
    rcases List.eq_nil_or_concat ss with rfl | ⟨ss, x, rfl⟩
    · have e0 : ∃ A cap, u6 = .slice A 0 cap := by
        obtain ⟨A, cap, e, _⟩ := hF.st.sl
        exact ⟨A, cap, e⟩
      obtain ⟨A, cap, e0⟩ := e0
      have hol : ol = R := by have := hF.eq; simpa [rest] using this
      have hO := hF.ou
      rw [hol] at hO
      clear hF HF HLEN
      subst e0
      go_wp2_with fail
      refine (hsrt B u5 R wr hO (by omega)).mono ?_
      rintro e w2 ⟨rfl, ⟨r, hr1, hr2, hr3⟩, hb⟩
      have FIN := Lib.hid (show (∃ v, Ending.returned u5 = .returned v ∧ ∃ r : List Int, r.Perm R ∧ r.Pairwise (· ≤ ·) ∧ OwnV w2 w.heap.size 3 v (iv r)) ∧ Below w.heap.size w w2 from ⟨⟨u5, rfl, r, hr1, hr2, by rw [hB]; exact hr3⟩, by have := hb w (by rw [← hB]; exact HSr.out); rw [← hB] at this; exact this⟩)
      clear hr3 hb hO hS
      go_wp2_with fail
      exact bodyPost_ret (v := u5) (by simp [results, Try.results28, go_sem]) rfl FIN.out
    · rw [List.concat_eq_append] at *
      obtain ⟨gs, cap, rfl, hgs, hcap, hcell, hpop⟩ := hF.pop
      obtain ⟨n, hn⟩ : ∃ n, ss.length = n := ⟨_, rfl⟩
      rw [hn] at hcap hcell hpop ⊢
      have v1 : IntKind.i64.wrap (n : Int) = n := by
        have h1 := hF.small; have h2 := szs_len (ss ++ [x])
        rw [List.length_append, hn] at h2
        rw [IntKind.wrap_i64]; omega
      have HPOP := Lib.hid hpop; have HN := Lib.hid hn
      have FIN := Lib.hid (fun (o s : Value) (w' : World) (ss' : List (Option Tr)) (ol' : List Int) (hf : FS B T.m T.N K q R w' o s ss' ol' ∧ szs ss' < szs (ss ++ [x])) (hb : Below w.heap.size w w') => (show ((∃ n, PF B T.m T.N K q R w' o s n) ∧ Below w.heap.size w w') ∧ TrG.least (PF B T.m T.N K q R w' o s) < TrG.least (PF B T.m T.N K q R wr u5 (.slice (some ⟨gs, 0, none⟩) (n + 1) cap)) from
        ⟨⟨⟨_, _, _, hf.1, rfl⟩, hb⟩, by have h1 := PF.le hf.1; have h2 := HLEN.out; rw [hn] at h2; omega⟩))
      rw [hn] at HF
      clear hpop hF hS
      cases x with
      | none =>
        simp only [ixo] at hcell
        have e1 : ((-1 : Int) == -1) = true := by decide
        go_wp2_with fail
        exact FIN.out _ _ _ _ _ (FS.drop HF.out HPOP.out rfl) HSr.out
      | some t =>
        obtain ⟨⟨u, hrep⟩, hfit, hrng⟩ := HF.out.items _ (List.mem_append_right _ (List.mem_singleton.2 rfl))
        have htr := hrng t.ix t.ix_all
        obtain ⟨k, hk⟩ : ∃ n : Nat, t.ix = n := ⟨t.ix.toNat, by omega⟩
        have kN : k < T.N := by omega
        have hTr := (HTN.out (by omega)).step HSr.out
        have c2 := hTr.nodes
        have e1 : ((k : Int) == -1) = false := by simp only [beq_eq_false_iff_ne, ne_eq]; omega
        have k0 : 0 ≤ (k : Int) ∧ (k : Int) < T.N := by omega
        simp only [ixo] at hcell
        rw [hk] at hcell
        have lp := (TN.lt hTr).1
        have lg := (TN.lt hTr).2
        have hat := TrK.fatAt hTr kN
        obtain ⟨f, hf⟩ : ∃ f, (T.m k).fat = f := ⟨_, rfl⟩
        rw [hf] at hat
        go_wp2_with (refine wpL_at (l := [.int .i64 f.lo.x, .int .i64 f.lo.y, .int .i64 f.lo.z, .int .i64 f.hi.x, .int .i64 f.hi.y, .int .i64 f.hi.z]) (by rfl) (by rfl) hat Try.underlying35 (by rfl) (by kernel_rfl) (by kernel_rfl) ?_; (conv => arg 5; simp only [Act.put, List.setIfInBounds_toArray, List.set_cons_zero, List.set_cons_succ]))
        refine (HQ.out f wr HSr.out).mono ?_
        rintro e w2 ⟨rfl, hS2⟩
        have hW2 := HSr.out.trans (hS2.mono HSr.out.size)
        have hT2 := hTr.step hS2
        have HF2 := Lib.hid (HF.out.step hS2)
        have HP2 := Lib.hid (HPOP.out.step hS2)
        have HW2 := Lib.hid hW2
        have hBw2 : B ≤ w2.heap.size := by rw [← hB]; exact hW2.size
        clear hat c2 lp lg hcell hTr HF HPOP hS2 hW2 hgs hBw
        cases hqf : q f with
        | false =>
          clear hT2
          go_wp2_with fail
          exact FIN.out _ _ _ _ _ (FS.drop HF2.out HP2.out (out_no (by rw [hk, hf]; exact hqf))) HW2.out
        | true =>
          have c2 := hT2.nodes
          have lp := (TN.lt hT2).1
          have lg := (TN.lt hT2).2
          have hat := TN.at hT2 kN
          obtain ⟨x, hx⟩ : ∃ x, T.m k = x := ⟨_, rfl⟩
          rw [hx] at hat
          have BN : Box (w2.alloc (.cells (ndv x).toArray 71)) w2.heap.size (ndv x) 71 := Box.new rfl
          have hS3 : Below w2.heap.size w2 (w2.alloc (.cells (ndv x).toArray 71)) := (Below.refl _ _).alloc (Nat.le_refl _) _
          have c12 : (w2.alloc (.cells (ndv x).toArray 71)).cell? ⟨w2.heap.size, 12, none⟩ = some (.int .i64 x.n) := by rw [BN.cell]; rfl
          have l12 := BN.lt
          have olK : ol.length ≤ K := by
            have h1 := congrArg List.length HF2.out.eq
            rw [List.length_append] at h1; omega
          have ssK : ss.length ≤ K := by
            have h1 := HF2.out.small; have h2 := szs_len (ss ++ [some t])
            rw [List.length_append] at h2; omega
          clear hT2
          cases t with
          | leaf i =>
            have hki : i = k := hk
            subst hki
            have hn1 : (x.n == 0) = false := by have : 1 ≤ (T.m k).n := hrep.2; rw [hx] at this; simp only [beq_eq_false_iff_ne, ne_eq]; omega
            have hb6 : At' (w2.alloc (.cells (ndv x).toArray 71)) w2.heap.size 6 [.int .i64 x.b.lo.x, .int .i64 x.b.lo.y, .int .i64 x.b.lo.z, .int .i64 x.b.hi.x, .int .i64 x.b.hi.y, .int .i64 x.b.hi.z] := fun j v hv => by
              rw [BN.cell]
              have hj : j < 6 := by
                rcases Nat.lt_or_ge j 6 with h | h
                · exact h
                · rw [List.getElem?_eq_none (by exact h)] at hv; cases hv
              show (bdv x.fat ++ bdv x.b ++ _)[6 + j]? = _
              rw [List.append_assoc, List.getElem?_append_right (by show 6 ≤ 6 + j; omega)]
              rw [show 6 + j - (bdv x.fat).length = j by show 6 + j - 6 = j; omega, List.getElem?_append_left (by exact hj)]
              exact hv
            clear hrep hfit hrng htr BN
            go_wp2_with (first | (refine wpL_at (l := ndv x) (by rfl) (by rfl) hat Try.underlying71 (by rfl) (szN _) (by kernel_rfl) ?_; (conv => arg 5; simp only [Act.put, List.setIfInBounds_toArray, List.set_cons_zero, List.set_cons_succ]); refine wpL_go (v := .pointer (some ⟨w2.heap.size, 0, none⟩)) (w' := w2.alloc (.cells [.int .i64 0, .int .i64 0, .int .i64 0, .int .i64 0, .int .i64 0, .int .i64 0, .int .i64 0, .int .i64 0, .int .i64 0, .int .i64 0, .int .i64 0, .int .i64 0, .int .i64 0, .int .i64 0, .int .i64 0, .int .i64 0, .int .i64 0].toArray 71)) (by kernel_rfl) (by go_simp) ?_; (conv => arg 5; simp only [Act.put, List.setIfInBounds_toArray, List.set_cons_zero, List.set_cons_succ]); refine wpL_store (cs := ndv x) (by rfl) (by rfl) (by rfl) (Box.new rfl) (szN _) (by rfl) (nd_one _) (by kernel_rfl) ?_; (conv => arg 5; simp only [Act.put, List.setIfInBounds_toArray, List.set_cons_zero, List.set_cons_succ]); rw [alloc_setRow]; refine wpList_nil ?_) | (refine wpL_at (l := [.int .i64 x.b.lo.x, .int .i64 x.b.lo.y, .int .i64 x.b.lo.z, .int .i64 x.b.hi.x, .int .i64 x.b.hi.y, .int .i64 x.b.hi.z]) (by rfl) (by rfl) hb6 Try.underlying35 (by rfl) (by kernel_rfl) (by kernel_rfl) ?_; (conv => arg 5; simp only [Act.put, List.setIfInBounds_toArray, List.set_cons_zero, List.set_cons_succ])))
            have hW3 := HW2.out.trans (hS3.mono HW2.out.size)
            refine (HQ.out x.b _ hW3).mono ?_
            rintro e w4 ⟨rfl, hS4⟩
            have HF4 := Lib.hid ((HF2.out.step hS3).step hS4)
            have HP4 := Lib.hid ((HP2.out.step hS3).step hS4)
            have HW4 := Lib.hid (hW3.trans (hS4.mono hW3.size))
            have c12' : w4.cell? ⟨w2.heap.size, 12, none⟩ = some (.int .i64 x.n) := by rw [(bcell hS4).1 _ _ l12]; exact c12
            clear hb6 c12 l12 c2 lp lg hat HF2 HP2 HW2 hS4 hS3 hW3
            have hqf' : q (T.m k).fat = true := by rw [hf]; exact hqf
            cases hqb : q x.b with
            | false =>
              go_wp2_with fail
              exact FIN.out _ _ _ _ _ (FS.drop HF4.out HP4.out (out_nay hqf' (by rw [hx]; exact hqb))) HW4.out
            | true =>
              have hS5 : Below w4.heap.size w4 (w4.alloc (.cells [.int .i64 x.n].toArray 3)) := (Below.refl _ _).alloc (Nat.le_refl _) _
              have hO5 := HF4.out.ou.step hS5
              have hP5 := HP4.out.step hS5
              have hc5 : (w4.alloc (.cells [.int .i64 x.n].toArray 3)).cell? ⟨w4.heap.size, 0, none⟩ = some (.int .i64 x.n) := by rw [(Box.new rfl : Box _ w4.heap.size [.int .i64 x.n] 3).cell]; rfl
              have hlen : (iv ol).length ≤ 1000000 := by rw [iv_len]; omega
              have hb5 : B ≤ (w4.alloc (.cells [.int .i64 x.n].toArray 3)).heap.size := by have := hS5.size; have := HW4.out.size; omega
              have HP5 := Lib.hid hP5
              have hW5 := HW4.out.trans (hS5.mono HW4.out.size)
              have HW5 := Lib.hid hW5
              clear hP5 hW5
              go_wp2_with (at_builtin; refine wpV_app Try.underlying29 infoI (by rfl) (by decide) (by rfl) (.tmp 64) (.tmp 67) (by rfl) (by rfl) hO5 (by rfl) hc5 (by rfl) hlen hb5 ?_; intro v6 w6 hO6 hG6 hL6 hB6)
              have hne : u5.ownBlock ≠ some gs := HF4.out.ne gs rfl
              have hgl := (HP5.out.lt gs rfl).2
              refine FIN.out _ _ _ _ _ (FS.found (y := x.n) HF4.out (HP5.out.block fun g hg hlt => hG6.block g hlt fun e => hne (e.symm.trans hg.symm)) (by rw [iv_snoc]; exact hO6) (fun e => ?_) (by
                show outT T.m q (.leaf k) = _
                rw [out_yes hqf' (by rw [hx]; exact hqb), hx])) ?_
              · rcases hL6 with h | h
                · exact hne (by rw [← h]; exact e)
                · rw [h] at e; injection e with e; omega
              · have := hB6 w (by rw [← hB]; exact HW5.out)
                rw [← hB] at this; exact this
          | node i l r =>
            have hki : i = k := hk
            subst hki
            have hn1 : (x.n == 0) = true := by have : (T.m k).n = 0 := hrep.2.1; rw [hx] at this; simp [this]
            have rl := hrng l.ix (List.mem_cons_of_mem _ (List.mem_append_left _ l.ix_all))
            have rr := hrng r.ix (List.mem_cons_of_mem _ (List.mem_append_right _ r.ix_all))
            have xl : x.l = l.ix := by rw [← hx]; exact hrep.2.2.1
            have xr : x.r = r.ix := by rw [← hx]; exact hrep.2.2.2.1
            have c14 : (w2.alloc (.cells (ndv x).toArray 71)).cell? ⟨w2.heap.size, 14, none⟩ = some (.int .i64 x.l) := by rw [BN.cell]; rfl
            have c15 : (w2.alloc (.cells (ndv x).toArray 71)).cell? ⟨w2.heap.size, 15, none⟩ = some (.int .i64 x.r) := by rw [BN.cell]; rfl
            have hW3 := HW2.out.trans (hS3.mono HW2.out.size)
            have HF3 := HF2.out.step hS3
            have HP3 := HP2.out.step hS3
            have hS5 : Below (w2.alloc (.cells (ndv x).toArray 71)).heap.size (w2.alloc (.cells (ndv x).toArray 71)) ((w2.alloc (.cells (ndv x).toArray 71)).alloc (.cells [.int .i64 x.l, .int .i64 x.r].toArray 3)) := (Below.refl _ _).alloc (Nat.le_refl _) _
            have hO5 := HP3.step hS5
            have hU5 := Lib.hid (HF3.step hS5)
            have bx5 : Box ((w2.alloc (.cells (ndv x).toArray 71)).alloc (.cells [.int .i64 x.l, .int .i64 x.r].toArray 3)) (w2.alloc (.cells (ndv x).toArray 71)).heap.size [.int .i64 x.l, .int .i64 x.r] 3 := Box.new rfl
            have hc5 : ((w2.alloc (.cells (ndv x).toArray 71)).alloc (.cells [.int .i64 x.l, .int .i64 x.r].toArray 3)).cell? ⟨(w2.alloc (.cells (ndv x).toArray 71)).heap.size, 0, none⟩ = some (.int .i64 x.l) := by rw [bx5.cell]; rfl
            have hc6 : ((w2.alloc (.cells (ndv x).toArray 71)).alloc (.cells [.int .i64 x.l, .int .i64 x.r].toArray 3)).cell? ⟨(w2.alloc (.cells (ndv x).toArray 71)).heap.size, 1, none⟩ = some (.int .i64 x.r) := by rw [bx5.cell]; rfl
            have hlen : (iv (ss.map ixo)).length ≤ 1000000 := by rw [iv_len, List.length_map]; omega
            have hb5 : B ≤ ((w2.alloc (.cells (ndv x).toArray 71)).alloc (.cells [.int .i64 x.l, .int .i64 x.r].toArray 3)).heap.size := by have := hS5.size; have := hW3.size; omega
            have HW5 := Lib.hid (hW3.trans (hS5.mono hW3.size))
            have hqf' : q (T.m k).fat = true := by rw [hf]; exact hqf
            have HREP := Lib.hid (show iv ((ss ++ [some l, some r]).map ixo) = iv (ss.map ixo) ++ [.int .i64 x.l, .int .i64 x.r] by rw [List.map_append, xl, xr, iv_append]; rfl)
            have es : (w2.alloc (.cells (ndv x).toArray 71)).heap.size = w2.heap.size + 1 := by simp
            rw [es] at hc5 hc6
            clear hrep hfit hrng htr BN hW3 HF3 HP3 hS3 hS5 bx5 rl rr HF2 HP2 HW2 xl xr
            go_wp2_with (first | (refine wpL_at (l := ndv x) (by rfl) (by rfl) hat Try.underlying71 (by rfl) (szN _) (by kernel_rfl) ?_; (conv => arg 5; simp only [Act.put, List.setIfInBounds_toArray, List.set_cons_zero, List.set_cons_succ]); refine wpL_go (v := .pointer (some ⟨w2.heap.size, 0, none⟩)) (w' := w2.alloc (.cells [.int .i64 0, .int .i64 0, .int .i64 0, .int .i64 0, .int .i64 0, .int .i64 0, .int .i64 0, .int .i64 0, .int .i64 0, .int .i64 0, .int .i64 0, .int .i64 0, .int .i64 0, .int .i64 0, .int .i64 0, .int .i64 0, .int .i64 0].toArray 71)) (by kernel_rfl) (by go_simp) ?_; (conv => arg 5; simp only [Act.put, List.setIfInBounds_toArray, List.set_cons_zero, List.set_cons_succ]); refine wpL_store (cs := ndv x) (by rfl) (by rfl) (by rfl) (Box.new rfl) (szN _) (by rfl) (nd_one _) (by kernel_rfl) ?_; (conv => arg 5; simp only [Act.put, List.setIfInBounds_toArray, List.set_cons_zero, List.set_cons_succ]); rw [alloc_setRow]; refine wpList_nil ?_) | (at_builtin; refine wpV_app2 Try.underlying29 infoI (by rfl) (by decide) (by rfl) (.tmp 53) (.tmp 58) (by rfl) (by rfl) hO5 (by rfl) hc5 hc6 (by rfl) (by rfl) hlen hb5 ?_; intro v6 w6 hO6 hG6 hL6 hB6))
            have hne : u5.ownBlock ≠ some gs := hU5.out.ne gs rfl
            refine FIN.out _ _ _ _ _ (FS.push hU5.out (by rw [HREP.out]; exact hO6) (hU5.out.ou.block fun g hg hlt => hG6.block g hlt fun e => hne (hg.trans e)) (fun j hj e => ?_) hqf') ?_
            · rcases hL6 with h | h
              · rw [h] at hj
                have : gs = j := by simpa [Value.ownBlock] using hj
                rw [← this] at e; exact hne e
              · rw [h] at hj
                injection hj with hj
                have := (hU5.out.ou.lt j e).2
                omega
            · have := hB6 w (by rw [← hB]; exact HW5.out)
              rw [← hB] at this; exact this
end TFd
end Go.Proofs.Ytbcjnckejkjfeaa
namespace Go.Proofs.Ytbcjnckejkjfeaa
set_option linter.unusedVariables false
set_option linter.unusedSimpArgs false
open Go.RowKit Go.NP Go.Sort
namespace TSr
open TrX QVl TFd
theorem put_take {cur : Array Value} {d : List Int} (h : d.length ≤ cur.size) : (putCells (Value.int .i64) 0 d.toArray cur).toList.take d.length = iv d := by
  apply List.ext_getElem?
  intro j
  by_cases hj : j < d.length
  · rw [List.getElem?_take_of_lt hj]
    have hc : j < cur.size := by omega
    simp only [putCells, Array.getElem?_toList, Array.getElem?_mapIdx]
    rw [Array.getElem?_eq_getElem hc]
    simp [iv, hj]
  · rw [List.getElem?_eq_none (by rw [List.length_take]; omega), List.getElem?_eq_none (by rw [iv_len]; omega)]
theorem sortOK : SortOK := by
  intro base v l w h hn
  rcases h.2 with ⟨rfl, h0⟩ | ⟨g, cap, cur, rfl, hb, hg, hc, hm, hsz, hx⟩
  · have e : l = [] := List.eq_nil_of_length_eq_zero (by simpa [iv] using h0)
    subst e
    refine (Try.slices_Sort_int_none none 0 w).mono ?_
    rintro e w' ⟨rfl, rfl⟩
    exact ⟨rfl, ⟨[], List.Perm.refl _, List.Pairwise.nil, h⟩, fun w0 hB => hB⟩
  · have hl : (iv l).length = l.length := iv_len l
    simp only [hl] at hc hsz hx ⊢
    have hlt : g < w.heap.size := (Array.getElem?_eq_some_iff.1 hg).1
    have hB : Box w g cur.toList 3 := hg
    have hcs : l.length ≤ cur.size := by omega
    have hH : Holds (Value.int .i64) w g 0 l.toArray := fun j hj => by
      have hj' : j < l.length := by simpa using hj
      rw [Nat.zero_add]
      refine ⟨?_, hB.free j⟩
      rw [hB.cell]
      have : (iv l)[j]? = some (.int .i64 l[j]) := by simp [iv, hj']
      rw [← hx, List.getElem?_take_of_lt (by omega)] at this
      rw [this]
      congr 1
      simp [hj']
    refine (Try.slices_Sort_int g 0 cap l w hH hlt (by omega)).mono ?_
    rintro e w' ⟨rfl, n, os, rfl⟩
    have hr : (l.mergeSort fun x y => decide (x ≤ y)).length = l.length := List.length_mergeSort _
    have hpw : (l.mergeSort fun x y => decide (x ≤ y)).Pairwise (· ≤ ·) := by
      refine (List.pairwise_mergeSort (fun a b c h1 h2 => ?_) (fun a b => ?_) l).imp fun {a b} h => by simpa using h
      · simp at *; omega
      · simp; omega
    have hp := List.mergeSort_perm l fun x y => decide (x ≤ y)
    generalize (l.mergeSort fun x y => decide (x ≤ y)) = r at *
    refine ⟨rfl, ⟨r, hp, hpw, ?_⟩, ?_⟩
    · unfold OwnV
      rw [iv_len, hr]
      refine ⟨by rw [iv_len, hr, Nat.mul_one], .inr ⟨g, cap, putCells (Value.int .i64) 0 r.toArray cur, rfl, hb, ?_, by omega, hm, ?_, ?_⟩⟩
      · rw [heap_grow_old _ _ (by simpa [putRow, mapBlock, Sort.ahead] using hlt)]
        show (w.heap.modify g (onCells (putCells (Value.int .i64) 0 r.toArray)))[g]? = _
        rw [Array.getElem?_modify, if_pos rfl, hg]
        rfl
      · rw [← hsz]; simp [putCells]
      · have := put_take (cur := cur) (d := r) (by omega)
        rw [hr] at this
        rw [Nat.mul_one]; exact this
    · intro w0 hB0
      refine hB0.trans ⟨rfl, rfl, rfl, by simp [Sort.grow, putRow, mapBlock, Sort.ahead], fun k hk => ?_⟩
      have hk' : k < w.heap.size := by have := hB0.size; omega
      rw [heap_grow_old _ _ (by simpa [putRow, mapBlock, Sort.ahead] using hk')]
      show (w.heap.modify g (onCells _))[k]? = _
      rw [Array.getElem?_modify, if_neg (by omega)]
end TSr
end Go.Proofs.Ytbcjnckejkjfeaa
namespace Go.Proofs.Ytbcjnckejkjfeaa
set_option linter.unusedVariables false
set_option linter.unusedSimpArgs false
open Go.RowKit Go.NP
namespace TMe
open TrP TrW TrC TrA TrF TrG TrX TrY TrK THg TCt QVl TrE TrI TAs TFp TFd TSr
theorem cf29 (args : Array Value) (w1 : World) : (callFunc 29 args).run Try.prog w1 = .ok (.enter 29 args) w1 := enters Try.func29 (by kernel_rfl) (by kernel_rfl) args w1
theorem cf14 (args : Array Value) (w1 : World) : (callFunc 14 args).run Try.prog w1 = .ok (.enter 14 args) w1 := enters Try.func14 (by kernel_rfl) (by kernel_rfl) args w1
theorem tell_rise {q : Bd → Bool} {L : List En} (h : Rise L) : (tell q L).Pairwise (· < ·) := List.pairwise_map.2 (List.Pairwise.sublist List.filter_sublist h)
theorem tell_eq {q : Bd → Bool} {L : List En} {r : List Int} (h : Rise L) (hp : r.Perm (tell q L)) (hs : r.Pairwise (· ≤ ·)) : r = tell q L :=
  List.Perm.eq_of_pairwise (le := fun a b : Int => a ≤ b) (fun a b _ _ h1 h2 => by omega) hs ((tell_rise h).imp fun h => by omega) hp
theorem out_tell {w : World} {p K : Nat} {mg : Int} {L : List En} {T : Tn} {F al lv : List Int} {b c : Nat} {pl : Int → Option Int} {q : Bd → Bool} {s : Tr} (h : TI0 w p mg L K T F al lv b c pl) (hq : ∀ F b, holds F b = true → q b = true → q F = true) (hf : Fit T.m s) (hl : s.lv.Perm lv) : (outT T.m q s).Perm (tell q L) := by
  refine (out_perm hq hf).trans ?_
  have e : ((s.lv.filter fun i => q (T.m i).b).map fun i => (T.m i).n) = tell q (s.lv.map (ent T.m)) := by
    unfold tell
    rw [List.filter_map, List.map_map]
    rfl
  rw [e]
  exact (((hl.map (ent T.m)).trans h.perm).filter _).map _
/-- What is found, whatever is asked. -/
theorem findTI {fid : Nat} {ca : Array Value} {q : Bd → Bool} {p K : Nat} {mg : Int} {L : List En} {S : Nat → Prop} (w : World) (h : TI w p mg L S K) (hK : K < 80000) (hmono : ∀ F b, holds F b = true → q b = true → q F = true)
    (cff : ∀ args w1, (callFunc fid args).run Try.prog w1 = .ok (.enter fid args) w1) (hq : ∀ (b : Bd) (u : World), Below w.heap.size w u → RetB Try.prog fid (#[.agg #[.int .i64 b.lo.x, .int .i64 b.lo.y, .int .i64 b.lo.z, .int .i64 b.hi.x, .int .i64 b.hi.y, .int .i64 b.hi.z]] ++ ca) u (.bool (q b))) :
    Calls Try.prog 28 #[.pointer (some ⟨p, 0, none⟩), .func (.func fid) #[] ca] w fun e w' => (∃ v, e = .returned v ∧ OwnV w' w.heap.size 3 v (iv (tell q L))) ∧ Below w.heap.size w w' := by
  obtain ⟨T, F, al, lv, b, c, pl, h, rfl⟩ := h
  obtain rfl := h.p_
  have c4 := TO.topc h.ts.tx.to
  have hT : 0 < T.N → TN w T := fun hN => by
    rcases h.ts.tx.to with ⟨q, _⟩ | q
    · omega
    · exact q
  rcases h.ts.sh with ⟨h1, h2, h3⟩ | ⟨s, h1, h2, h3, h4, h5, h6⟩
  · have hL : L = [] := by have := h.perm; rw [h3] at this; exact this.nil_eq.symm
    refine (findC sortOK (K := K + 1) (x0 := none) w (by rw [c4, h1]; rfl) h.lt hT trivial (by show 1 ≤ K + 1; omega) (by omega) cff hq).mono ?_
    rintro e w' ⟨⟨v, rfl, r, hr1, hr2, hr3⟩, hb⟩
    have hr0 : r = [] := List.perm_nil.1 hr1
    subst hr0
    exact ⟨⟨v, rfl, by rw [hL]; exact hr3⟩, hb⟩
  · have hi : ItOK T.m T.N (some s) := ⟨⟨_, h1⟩, h2, fun i hi => h.ts.rng i (List.mem_append_left _ (h5.mem_iff.1 hi))⟩
    refine (findC sortOK (K := K + 1) (x0 := some s) w (by rw [c4, h4]; rfl) h.lt hT hi (by show s.all.length ≤ K + 1; rw [h5.length_eq]; have := h.ts.n3; omega) (by omega) cff hq).mono ?_
    rintro e w' ⟨⟨v, rfl, r, hr1, hr2, hr3⟩, hb⟩
    have := tell_eq h.rise (hr1.trans (out_tell h hmono h2 h6)) hr2
    rw [this] at hr3
    exact ⟨⟨v, rfl, hr3⟩, hb⟩
set_option maxRecDepth 100000 in
set_option maxHeartbeats 2000000 in
theorem m1C {gx : Nat} {x : Bd} (b : Bd) (u : World) (h : Box u gx [.int .i64 x.lo.x, .int .i64 x.lo.y, .int .i64 x.lo.z, .int .i64 x.hi.x, .int .i64 x.hi.y, .int .i64 x.hi.z] 35) : RetB Try.prog 29 #[.agg #[.int .i64 b.lo.x, .int .i64 b.lo.y, .int .i64 b.lo.z, .int .i64 b.hi.x, .int .i64 b.hi.y, .int .i64 b.hi.z], .pointer (some ⟨gx, 0, none⟩)] u (.bool (meet b x)) := by
  have hb : Below u.heap.size u (u.alloc (.cells #[.int .i64 b.lo.x, .int .i64 b.lo.y, .int .i64 b.lo.z, .int .i64 b.hi.x, .int .i64 b.hi.y, .int .i64 b.hi.z] 35)) := (Below.refl _ _).alloc (Nat.le_refl _) _
  have h1 := h.step hb
  have h2 : Box (u.alloc (.cells #[.int .i64 b.lo.x, .int .i64 b.lo.y, .int .i64 b.lo.z, .int .i64 b.hi.x, .int .i64 b.hi.y, .int .i64 b.hi.z] 35)) u.heap.size [.int .i64 b.lo.x, .int .i64 b.lo.y, .int .i64 b.lo.z, .int .i64 b.hi.x, .int .i64 b.hi.y, .int .i64 b.hi.z] 35 := Box.new rfl
  have H1 := Lib.hid h1; have H2 := Lib.hid h2
  clear h h1 h2
  unfold RetB
  go_enter Try.func29, Try.ntmps29
  go_wp2_with (first | (refine wpL_load (l := [.int .i64 b.lo.x, .int .i64 b.lo.y, .int .i64 b.lo.z, .int .i64 b.hi.x, .int .i64 b.hi.y, .int .i64 b.hi.z]) (by rfl) (by rfl) H2.out Try.underlying35 (by rfl) (by kernel_rfl) (by kernel_rfl) ?_; (conv => arg 5; simp only [Act.put, List.setIfInBounds_toArray, List.set_cons_zero, List.set_cons_succ])) | (refine wpL_load (l := [.int .i64 x.lo.x, .int .i64 x.lo.y, .int .i64 x.lo.z, .int .i64 x.hi.x, .int .i64 x.hi.y, .int .i64 x.hi.z]) (by rfl) (by rfl) H1.out Try.underlying35 (by rfl) (by kernel_rfl) (by kernel_rfl) ?_; (conv => arg 5; simp only [Act.put, List.setIfInBounds_toArray, List.set_cons_zero, List.set_cons_succ])))
  refine (meetC b x _).mono ?_
  rintro e w1 ⟨rfl, hS⟩
  go_wp2_with fail
  exact bodyPost_ret (v := .bool (meet b x)) (by simp [results, Try.results29, go_sem, *]) rfl ⟨rfl, hb.trans (hS.mono hb.size)⟩
theorem meet_mono {x : Bd} : ∀ F b, holds F b = true → meet b x = true → meet F x = true := fun F b h1 h2 => by
  obtain ⟨hF, hb, h3, h4⟩ := holds_iff.1 h1
  have h2' : b.ok ∧ x.ok ∧ (pmax b.lo x.lo).le (pmin b.hi x.hi) := by simpa [meet] using h2
  obtain ⟨_, hx, h5, h6, h7⟩ := h2'
  have : F.ok ∧ x.ok ∧ (pmax F.lo x.lo).le (pmin F.hi x.hi) := by
    refine ⟨hF, hx, ?_, ?_, ?_⟩
    · have a := h3.1; have c := h4.1; simp only [pmax, pmin] at *; omega
    · have a := h3.2.1; have c := h4.2.1; simp only [pmax, pmin] at *; omega
    · have a := h3.2.2; have c := h4.2.2; simp only [pmax, pmin] at *; omega
  simpa [meet] using this
/-- The numbers whose bounds meet one. -/
def meetL (L : List En) (x : Bd) : List Int := tell (fun b => meet b x) L
theorem meetL_no {L : List En} {x : Bd} (h : ¬ x.ok) : meetL L x = [] := by
  unfold meetL tell
  rw [List.filter_eq_nil_iff.2]; · rfl
  intro e _ hm
  have h2 : e.b.ok ∧ x.ok ∧ (pmax e.b.lo x.lo).le (pmin e.b.hi x.hi) := by simpa [meet] using hm
  exact h h2.2.1
set_option maxRecDepth 100000 in
set_option maxHeartbeats 4000000 in
theorem tmeetC {p K : Nat} {mg : Int} {x : Bd} {L : List En} {S : Nat → Prop} (w : World) (h : TI w p mg L S K) (hK : K < 80000) :
    Calls Try.prog 11 #[.pointer (some ⟨p, 0, none⟩), .agg #[.int .i64 x.lo.x, .int .i64 x.lo.y, .int .i64 x.lo.z, .int .i64 x.hi.x, .int .i64 x.hi.y, .int .i64 x.hi.z]] w fun e w' => (∃ v, e = .returned (.tuple #[v, .int .i64 (errIf x.ok)]) ∧ OwnV w' w.heap.size 3 v (iv (meetL L x))) ∧ Below w.heap.size w w' := by
  have hm : w.cell? ⟨p, 0, none⟩ = some (.bool true) ∧ p < w.heap.size := by
    obtain ⟨T, F, al, lv, b, c, pl, h, rfl⟩ := h
    have := TO.madec h.ts.tx.to; rw [h.p_] at this; exact ⟨this, h.lt⟩
  have hb : Below w.heap.size w (w.alloc (.cells #[.int .i64 x.lo.x, .int .i64 x.lo.y, .int .i64 x.lo.z, .int .i64 x.hi.x, .int .i64 x.hi.y, .int .i64 x.hi.z] 35)) := (Below.refl _ _).alloc (Nat.le_refl _) _
  have hm2 : (w.alloc (.cells #[.int .i64 x.lo.x, .int .i64 x.lo.y, .int .i64 x.lo.z, .int .i64 x.hi.x, .int .i64 x.hi.y, .int .i64 x.hi.z] 35)).cell? ⟨p, 0, none⟩ = some (.bool true) := by rw [(bcell hb).1 p 0 hm.2]; exact hm.1
  have hp2 : p < (w.alloc (.cells #[.int .i64 x.lo.x, .int .i64 x.lo.y, .int .i64 x.lo.z, .int .i64 x.hi.x, .int .i64 x.hi.y, .int .i64 x.hi.z] 35)).heap.size := by have := hb.size; omega
  have AS := Lib.hid (askedC (n := 1) (x := x) _ hm2 hp2)
  have e1 : askS 1 x = errIf x.ok := by unfold askS; rw [if_pos (by omega)]
  rw [e1] at AS
  have hbx : Box (w.alloc (.cells #[.int .i64 x.lo.x, .int .i64 x.lo.y, .int .i64 x.lo.z, .int .i64 x.hi.x, .int .i64 x.hi.y, .int .i64 x.hi.z] 35)) w.heap.size [.int .i64 x.lo.x, .int .i64 x.lo.y, .int .i64 x.lo.z, .int .i64 x.hi.x, .int .i64 x.hi.y, .int .i64 x.hi.z] 35 := Box.new rfl
  have HB := Lib.hid hbx; have HTI := Lib.hid (h.step hb); have HBE := Lib.hid hb
  clear h hm hm2 hp2 hb hbx
  by_cases hx : x.ok
  · rw [errIf_pos hx] at AS ⊢
    go_enter Try.func11, Try.ntmps11
    go_wp2_with (refine wpL_load (l := [.int .i64 x.lo.x, .int .i64 x.lo.y, .int .i64 x.lo.z, .int .i64 x.hi.x, .int .i64 x.hi.y, .int .i64 x.hi.z]) (by rfl) (by rfl) HB.out Try.underlying35 (by rfl) (by kernel_rfl) (by kernel_rfl) ?_; (conv => arg 5; simp only [Act.put, List.setIfInBounds_toArray, List.set_cons_zero, List.set_cons_succ]))
    refine AS.out.mono ?_
    rintro e w1 ⟨rfl, hS⟩
    have h2 := HTI.out.step hS
    have hB2 := HB.out.step hS
    have HW := Lib.hid (HBE.out.trans (hS.mono HBE.out.size))
    clear HTI HB HBE hS AS
    go_wp2_with fail
    refine (findTI (q := fun b => meet b x) (fid := 29) (ca := #[.pointer (some ⟨w.heap.size, 0, none⟩)]) w1 h2 hK meet_mono cf29 (fun b u hu => m1C b u (hB2.step hu))).mono ?_
    rintro e w2 ⟨⟨v, rfl, hv⟩, hS2⟩
    have FIN := Lib.hid (show (∃ v_1, Ending.returned (.tuple #[v, .int .i64 0]) = .returned (.tuple #[v_1, .int .i64 0]) ∧ OwnV w2 w.heap.size 3 v_1 (iv (meetL L x))) ∧ Below w.heap.size w w2 from ⟨⟨v, rfl, hv.mono HW.out.size⟩, HW.out.trans (hS2.mono HW.out.size)⟩)
    clear hv hS2 HW h2 hB2
    go_wp2_with fail
    exact bodyPost_ret (v := .tuple #[v, .int .i64 0]) (by simp [results, Try.results11, go_sem]) rfl FIN.out
  · rw [errIf_neg hx] at AS ⊢
    rw [meetL_no hx]
    go_enter Try.func11, Try.ntmps11
    go_wp2_with (refine wpL_load (l := [.int .i64 x.lo.x, .int .i64 x.lo.y, .int .i64 x.lo.z, .int .i64 x.hi.x, .int .i64 x.hi.y, .int .i64 x.hi.z]) (by rfl) (by rfl) HB.out Try.underlying35 (by rfl) (by kernel_rfl) (by kernel_rfl) ?_; (conv => arg 5; simp only [Act.put, List.setIfInBounds_toArray, List.set_cons_zero, List.set_cons_succ]))
    refine AS.out.mono ?_
    rintro e w1 ⟨rfl, hS⟩
    go_wp2_with fail
    exact bodyPost_ret (v := .tuple #[.slice none 0 0, .int .i64 7]) (by simp [results, Try.results11, go_sem]) rfl ⟨⟨.slice none 0 0, rfl, OwnV.nil _ _ _⟩, HBE.out.trans (hS.mono HBE.out.size)⟩
end TMe
end Go.Proofs.Ytbcjnckejkjfeaa
namespace Go.Proofs.Ytbcjnckejkjfeaa
set_option linter.unusedVariables false
set_option linter.unusedSimpArgs false
open Go.RowKit Go.NP
namespace TPp
open TrE TMe
theorem pmin_comm' (p q : Pt) : pmin p q = pmin q p := pmin_comm p q
theorem meet_comm (a b : Bd) : meet a b = meet b a := by
  unfold meet
  rw [pmax_comm a.lo b.lo, pmin_comm a.hi b.hi]
  congr 1
  exact propext ⟨fun h => ⟨h.2.1, h.1, h.2.2⟩, fun h => ⟨h.2.1, h.1, h.2.2⟩⟩
/-- The pairs of entries, the first one rising. -/
def pairsP : List En → List Pr
  | [] => []
  | e :: r => ((r.filter fun x => meet e.b x.b).map fun x => (⟨e.n, x.n⟩ : Pr)) ++ pairsP r
/-- The pairs of one entry, found by its bound. -/
def pairsOf (L : List En) (e : En) : List Pr := ((meetL L e.b).filter fun m => decide (e.n < m)).map fun m => (⟨e.n, m⟩ : Pr)
theorem of_tail {A B : List En} {e : En} (h : Rise (A ++ e :: B)) : pairsOf (A ++ e :: B) e = (B.filter fun x => meet e.b x.b).map fun x => (⟨e.n, x.n⟩ : Pr) := by
  obtain ⟨h1, h2, h3⟩ := List.pairwise_append.1 h
  have h4 := List.pairwise_cons.1 h2
  unfold pairsOf meetL tell
  rw [List.filter_map, List.map_map, List.filter_filter, List.filter_append, List.filter_cons]
  have eA : A.filter (fun a => ((fun m => decide (e.n < m)) ∘ fun x : En => x.n) a && meet a.b e.b) = [] := List.filter_eq_nil_iff.2 fun a ha => by
    have := h3 a ha e (List.mem_cons_self ..)
    have hx : ¬ e.n < a.n := by omega
    simp [hx]
  have eE : (((fun m => decide (e.n < m)) ∘ fun x : En => x.n) e && meet e.b e.b) = false := by simp
  rw [eA, eE, List.nil_append, if_neg (by simp)]
  have eB : B.filter (fun a => ((fun m => decide (e.n < m)) ∘ fun x : En => x.n) a && meet a.b e.b) = B.filter fun x => meet e.b x.b := List.filter_congr fun a ha => by
    have := h4.1 a ha
    simp [this, meet_comm a.b e.b]
  rw [eB]
  rfl
theorem all_pairs : ∀ {B A : List En}, Rise (A ++ B) → B.flatMap (pairsOf (A ++ B)) = pairsP B
  | [], A, h => rfl
  | e :: B, A, h => by
    rw [List.flatMap_cons, of_tail h]
    have h2 : A ++ e :: B = (A ++ [e]) ++ B := by simp
    show _ = _ ++ pairsP B
    rw [← all_pairs (A := A ++ [e]) (B := B) (by rw [← h2]; exact h), h2]
theorem pairs_len : ∀ L : List En, (pairsP L).length ≤ L.length * L.length
  | [] => Nat.le_refl _
  | e :: r => by
    have h1 := pairs_len r
    have h2 := List.length_filter_le (fun x : En => meet e.b x.b) r
    unfold pairsP
    rw [List.length_append, List.length_map, List.length_cons, Nat.add_mul, Nat.mul_add]
    omega
theorem pairs_mem : ∀ {L : List En}, ∀ x ∈ pairsP L, ∃ e ∈ L, x.a = e.n
  | [], x, h => by cases h
  | e :: r, x, h => by
    rcases List.mem_append.1 h with h | h
    · obtain ⟨y, _, rfl⟩ := List.mem_map.1 h
      exact ⟨e, List.mem_cons_self .., rfl⟩
    · obtain ⟨y, hy, he⟩ := pairs_mem x h
      exact ⟨y, List.mem_cons_of_mem _ hy, he⟩
theorem pairs_rise : ∀ {L : List En}, Rise L → (pairsP L).Pairwise ltP
  | [], _ => List.Pairwise.nil
  | e :: r, h => by
    have h1 := List.pairwise_cons.1 h
    refine List.pairwise_append.2 ⟨List.pairwise_map.2 ((List.Pairwise.sublist List.filter_sublist h1.2).imp fun hx => .inr ⟨rfl, hx⟩), pairs_rise h1.2, fun x hx y hy => ?_⟩
    obtain ⟨z, _, rfl⟩ := List.mem_map.1 hx
    obtain ⟨u, hu, hue⟩ := pairs_mem y hy
    have := h1.1 u hu
    left; show e.n < y.a; omega
theorem pairs_ok : ∀ {L : List En}, Rise L → (∀ e ∈ L, 1 ≤ e.n ∧ e.n ≤ 4096) → ∀ x ∈ pairsP L, okP x
  | [], _, _, x, h => by cases h
  | e :: r, h, hr, x, hx => by
    have h1 := List.pairwise_cons.1 h
    rcases List.mem_append.1 hx with hx | hx
    · obtain ⟨y, hy, rfl⟩ := List.mem_map.1 hx
      have hy' := (List.mem_filter.1 hy).1
      exact ⟨(hr e (List.mem_cons_self ..)).1, h1.1 y hy', (hr y (List.mem_cons_of_mem _ hy')).2⟩
    · exact pairs_ok h1.2 (fun e he => hr e (List.mem_cons_of_mem _ he)) x hx
theorem sorted_is {L : List En} {r : List Pr} (h : Rise L) (hp : r.Perm (pairsP L)) (hs : r.Pairwise fun x y => ¬ ltP y x) : r = pairsP L := by
  refine List.Perm.eq_of_pairwise (le := fun x y : Pr => ¬ ltP y x) (fun a b _ _ h1 h2 => ?_) hs ((pairs_rise h).imp fun {x y} hxy => ?_) hp
  · obtain ⟨a1, a2⟩ := a; obtain ⟨b1, b2⟩ := b
    unfold ltP at h1 h2
    simp only at h1 h2
    have : a1 = b1 ∧ a2 = b2 := by omega
    rw [this.1, this.2]
  · unfold ltP at *; omega
end TPp
end Go.Proofs.Ytbcjnckejkjfeaa
namespace Go.Proofs.Ytbcjnckejkjfeaa
set_option linter.unusedVariables false
set_option linter.unusedSimpArgs false
open Go.RowKit Go.NP
namespace TPr
open TrP TrW TrC TrA TrF TrG TrX TrY TrK THg TCt QVl QVm TMp TrE TrI TAs TPu TMe TPp
section
variable {ops : Array Oper} {r : List Oper} {o : Oper} {a : Act} {Q : Exit → Act → World → Prop} {w : World} {base g : Nat} {v : Value} {m : List Pr} {p : Pr}
/-- A pair appended. -/
theorem wpP_app (hgd : o.guard = none) (s x : Operand) (ho : o.op = .call { callee := .builtin .append, args := #[s, x], argTypes := #[39, 39] }) (hs : a.eval s = v) (hown : OwnS w base v m) (hx : a.eval x = .slice (some ⟨g, 0, none⟩) 1 1) (hB : Box w g (prv p) 64) (hl : m.length ≤ 100000) (hb : base ≤ w.heap.size)
    (h : ∀ v' w', OwnS w' base v' (m ++ [p]) → w.grownBy w' v.ownBlock → (v'.ownBlock = v.ownBlock ∨ v'.ownBlock = some w.heap.size) → (∀ w0, Below base w0 w → Below base w0 w') → wpList Try.prog ops Q r (a.put o.dst v') w') : wpList Try.prog ops Q (o :: r) a w := by
  obtain ⟨i0, hi0, hz0, hz1, hz2⟩ := info_parts infoPa
  refine wpList_append_own_at _ hgd s x 39 ho base 64 i0 (.agg #[.int .i64 0, .int .i64 0]) 2 16 Try.underlying39 hi0 hz0 hz1 hz2 rfl (by decide) v m.length (prvs m) hs hown ⟨g, 0, none⟩ 1 1 (prv p) hx rfl (fun j u hj => ?_) (fun u hu => prv_one u hu) (by unfold maxLen; omega) (by omega) hb ?_
  · have hadd : (⟨g, 0, none⟩ : Addr).add j = ⟨g, 0 + j, none⟩ := by unfold Addr.add; split <;> simp_all
    rw [hadd, Nat.zero_add, hB.cell]; exact hj
  · intro v' w' h1 h2 _ h4
    refine h v' w' ?_ h2 h4 fun w0 hB => hB.grown h2 hb fun k hk => ?_
    · unfold OwnS
      rw [prvs_append, List.length_append]
      have : prvs [p] = prv p := by simp [prvs]
      rw [this]
      exact h1
    · rcases hown.2 with ⟨rfl, _⟩ | ⟨g', cap, cur, rfl, hb', _⟩
      · simp [Value.ownBlock] at hk
      · obtain rfl : g' = k := by simpa [Value.ownBlock] using hk
        exact hb'
end
theorem ownS_kept {w w' : World} {base : Nat} {row : Option Nat} {v : Value} {l : List Pr} (h : OwnS w base v l) (hg : w.grownBy w' row) (hn : ∀ k, v.ownBlock = some k → row ≠ some k) : OwnS w' base v l := by
  refine ⟨h.1, ?_⟩
  rcases h.2 with h1 | ⟨g, cap, cur, rfl, hb, hg', h2⟩
  · exact .inl h1
  · refine .inr ⟨g, cap, cur, rfl, hb, ?_, h2⟩
    rw [hg.block g (Array.getElem?_eq_some_iff.1 hg').1 (fun e => hn g rfl e.symm)]
    exact hg'
/-- While the map is ranged over. -/
structure PO (w wr : World) (b rr c : Nat) (L : List En) (D : DataW Value) (left : Lit → Bool) (cnt : Nat) (o : Value) (ks : List Int) (es : List En) (ol : List Pr) : Prop where
  rg : wr.ranges Try.prog 3 RV b rr c D left cnt
  ow : OwnS wr w.heap.size o ol
  ap : o.ownBlock ≠ some rr
  ks_ : ks.Nodup ∧ ∀ x, wfI x → (x ∈ ks ↔ isIn L x = true ∧ left (kl x) = false)
  wf : ∀ x ∈ ks, wfI x
  es_ : es.map (·.n) = ks ∧ ∀ e ∈ es, e ∈ L
  ol_ : ol = es.flatMap (pairsOf L)
  bel : Below w.heap.size w wr
theorem nodup_len {α : Type} [DecidableEq α] : ∀ {l L : List α}, l.Nodup → (∀ x ∈ l, x ∈ L) → l.length ≤ L.length
  | [], L, _, _ => Nat.zero_le _
  | x :: r, L, hn, hs => by
    have hn' := List.nodup_cons.1 hn
    have hx := hs x (List.mem_cons_self ..)
    have h1 := nodup_len (l := r) (L := L.erase x) hn'.2 fun y hy => (List.mem_erase_of_ne fun e => hn'.1 (by rw [← e]; exact hy)).2 (hs y (List.mem_cons_of_mem _ hy))
    have h2 := List.length_erase_of_mem hx
    have h3 := List.length_pos_of_mem hx
    rw [List.length_cons]; omega
theorem len_ok {L es : List En} {ol : List Pr} {ks : List Int} (hr : Rise L) (h1 : ks.Nodup) (h2 : es.map (·.n) = ks ∧ ∀ e ∈ es, e ∈ L) (h3 : ol = es.flatMap (pairsOf L)) : ol.length ≤ L.length * L.length := by
  have hn : es.Nodup := by
    rw [← h2.1] at h1
    exact (List.pairwise_map.1 h1).imp fun hne e => hne (by rw [e])
  have hs : es.length ≤ L.length := nodup_len hn h2.2
  have hl : ∀ e ∈ es, (pairsOf L e).length ≤ L.length := fun e _ => by
    unfold pairsOf meetL tell
    rw [List.length_map]
    refine Nat.le_trans (List.length_filter_le _ _) ?_
    rw [List.length_map]
    exact List.length_filter_le _ _
  rw [h3, List.length_flatMap]
  have : ∀ l : List En, (∀ e ∈ l, (pairsOf L e).length ≤ L.length) → (l.map fun e => (pairsOf L e).length).sum ≤ l.length * L.length := by
    intro l
    induction l with
    | nil => intro _; simp
    | cons x r ih =>
      intro h
      have h1 := h x (List.mem_cons_self ..)
      have h2 := ih fun e he => h e (List.mem_cons_of_mem _ he)
      simp only [List.map_cons, List.sum_cons, List.length_cons, Nat.add_mul]
      omega
  exact Nat.le_trans (this es hl) (Nat.mul_le_mul_right _ hs)
theorem PO.step_ {w wr w' : World} {b rr c cnt cnt' : Nat} {L : List En} {D : DataW Value} {left : Lit → Bool} {o o' : Value} {ks : List Int} {es : List En} {ol ol' : List Pr} {e : En} (h : PO w wr b rr c L D left cnt o ks es ol) (he : e ∈ L) (hl : left (kl e.n) = true) (hw : wfI e.n) (hr : w'.ranges Try.prog 3 RV b rr c D (fun z => left z && !z.sameKey (kl e.n)) cnt') (ho : OwnS w' w.heap.size o' ol') (ha : o'.ownBlock ≠ some rr) (hol : ol' = ol ++ pairsOf L e) (hb : Below w.heap.size w w') :
    PO w w' b rr c L D (fun z => left z && !z.sameKey (kl e.n)) cnt' o' (ks ++ [e.n]) (es ++ [e]) ol' := by
  have hx : e.n ∉ ks := fun hm => by
    have := ((h.ks_.2 e.n hw).1 hm).2
    rw [hl] at this; cases this
  refine ⟨hr, ho, ha, ⟨List.nodup_append.2 ⟨h.ks_.1, by simp, fun a ha b hb e' => ?_⟩, fun y hy => ?_⟩, fun y hy => ?_, ⟨by rw [List.map_append, h.es_.1]; rfl, fun y hy => ?_⟩, by rw [hol, h.ol_, List.flatMap_append]; simp, hb⟩
  · rw [List.mem_singleton.1 hb] at e'; exact hx (e' ▸ ha)
  · rw [List.mem_append, List.mem_singleton, h.ks_.2 y hy]
    by_cases q : y = e.n
    · subst q
      have : isIn L e.n = true := isIn_iff.2 ⟨e, he, rfl⟩
      simp [this, Lit.sameKey, kl]
    · simp [q, Lit.sameKey, kl]
  · rcases List.mem_append.1 hy with hy | hy
    · exact h.wf y hy
    · rw [List.mem_singleton.1 hy]; exact hw
  · rcases List.mem_append.1 hy with hy | hy
    · exact h.es_.2 y hy
    · rw [List.mem_singleton.1 hy]; exact he
/-- At the end. -/
theorem PO.done {w wr : World} {b rr c cnt : Nat} {L : List En} {D : DataW Value} {left : Lit → Bool} {o : Value} {ks : List Int} {es : List En} {ol : List Pr} (h : PO w wr b rr c L D left cnt o ks es ol) (hr : Rise L) (hn : ∀ e ∈ L, 1 ≤ e.n ∧ e.n ≤ 4096) (hl : ∀ k, left k = false) : ol.Perm (pairsP L) := by
  have h1 : es.Nodup := by
    have q := h.ks_.1
    rw [← h.es_.1] at q
    exact (List.pairwise_map.1 q).imp fun hne e => hne (by rw [e])
  have h2 : L.Nodup := hr.imp fun hlt e => by rw [e] at hlt; omega
  have hp : es.Perm L := (List.perm_ext_iff_of_nodup h1 h2).2 fun e => ⟨h.es_.2 e, fun he => by
    have h3 := (h.ks_.2 e.n (wf_rng (hn e he))).2 ⟨isIn_iff.2 ⟨e, he, rfl⟩, hl _⟩
    rw [← h.es_.1] at h3
    obtain ⟨e', he', hee⟩ := List.mem_map.1 h3
    rw [← rise_n hr (h.es_.2 e' he') he hee]; exact he'⟩
  rw [h.ol_, ← all_pairs (A := []) (B := L) hr]
  exact hp.flatMap_right _
/-- While one's numbers are gone through. -/
structure PI (w wr : World) (b rr c : Nat) (D : DataW Value) (left : Lit → Bool) (cnt : Nat) (x : Int) (o lv : Value) (lm : List Int) (ol ol2 : List Pr) (j : Nat) : Prop where
  rg : wr.ranges Try.prog 3 RV b rr c D left cnt
  ow : OwnS wr w.heap.size o ol2
  ap : o.ownBlock ≠ some rr
  lv_ : OwnV wr 0 3 lv (iv lm)
  ap2 : ∀ k, lv.ownBlock = some k → o.ownBlock ≠ some k
  bel : Below w.heap.size w wr
  ol2_ : ol2 = ol ++ ((lm.take j).filter fun m => decide (x < m)).map fun m => (⟨x, m⟩ : Pr)
theorem take_more {l : List Int} {j : Nat} {y : Int} (h : l[j]? = some y) : l.take (j + 1) = l.take j ++ [y] := by
  have hk := get_lt h
  rw [List.take_succ_eq_append_getElem hk]
  rw [List.getElem?_eq_getElem hk] at h; cases h; rfl
set_option maxRecDepth 100000 in
set_option maxHeartbeats 8000000 in
theorem pairsC {p K : Nat} {mg : Int} {L : List En} {S : Nat → Prop} (w : World) (h : TI w p mg L S K) (hK : K < 80000) (hL : L.length ≤ 250) :
    Calls Try.prog 15 #[.pointer (some ⟨p, 0, none⟩)] w fun e w' => (∃ v, e = .returned v ∧ OwnS w' w.heap.size v (pairsP L)) ∧ Below w.heap.size w w' := by
  have HTI := Lib.hid h
  obtain ⟨T, F, al, lv, b, c, pl, h, rfl⟩ := h
  obtain rfl := h.p_
  have c5 : w.cell? ⟨T.p, 5, none⟩ = some (.map (some b)) := by have := TO.mpc h.ts.tx.to; rw [h.ts.tx.mp] at this; exact this
  have hv := h.ts.tx.vm
  have hp := h.lt
  have H0 := Lib.hid h
  clear h
  go_enter Try.func15, Try.ntmps15
  go_wp2_with (at_range; refine wpL_range (by rfl) _ (by rfl) (by rfl) hv Try.underlying56 ?_; intro w1 D hD hR hG hsz)
  go_frame
  obtain ⟨B, hB⟩ : ∃ B, w.heap.size = B := ⟨_, rfl⟩
  have hb0 : b ≠ B := fun e => by have := H0.out.ts.tx.vm.lt; omega
  have hW1 : Below w.heap.size w w1 := (Below.refl _ _).grown hG (Nat.le_refl _) (fun k hk => by cases hk)
  have P0 : PO w w1 b w.heap.size c L D (Maps.has D) (Maps.size D) (.slice none 0 0) [] [] [] := by
    refine ⟨hR, OwnS.nil _ _, fun e => (by cases e), ⟨List.nodup_nil, fun x hx => ?_⟩, fun x hx => (by cases hx), ⟨rfl, fun e he => (by cases he)⟩, rfl, hW1⟩
    have q := (hD x hx).1
    rw [im_some] at q
    constructor
    · intro h; cases h
    · rintro ⟨h1, h2⟩
      obtain ⟨a, ha, _⟩ := H0.out.look_in h1
      rw [ha] at q
      rw [q] at h2; cases h2
  have HD := Lib.hid hD
  rw [hB] at P0 ⊢
  clear hR hG hsz hW1 hD hv c5
  go_loopw [3] (fun o wr => ∃ left cnt ks es ol, PO w wr b B c L D left cnt o ks es ol) (fun _ wr => wr.rangeLeft b B)
  case atStart => exact ⟨_, _, _, _, _, P0⟩
  case round =>
    clear P0
    obtain ⟨left, cnt, ks, es, ol, hP⟩ := hrel
    have HP := Lib.hid hP
    have hrg := hP.rg
    have hDD := HD.out
    clear hP
    go_wp2_with (at_next; refine wpL_next (by rfl) _ (by rfl) (by rfl) hDD hrg ?_ ?_)
    · intro h0 hl
      have hr := HTI.out.rise
      have hok := HTI.out.ok
      have hpm := PO.done HP.out hr (fun e he => (hok e he).1) hl
      have hlen : ol.length ≤ 65536 := by rw [hpm.length_eq]; have := pairs_len L; have := Nat.mul_le_mul hL hL; omega
      have how := HP.out.ow
      have HW := Lib.hid HP.out.bel
      clear hrg hDD HP
      go_wp2_with fail
      refine (QSo.sortC wr how (fun q hq => pairs_ok hr (fun e he => (hok e he).1) q (hpm.mem_iff.1 hq)) hlen).mono ?_
      rintro e w2 ⟨rfl, ⟨r, hr1, hr2, hr3⟩, hb⟩
      have er := sorted_is hr (hr1.trans hpm) hr2
      rw [er] at hr3
      have FIN := Lib.hid (show (∃ v, Ending.returned u3 = .returned v ∧ OwnS w2 w.heap.size v (pairsP L)) ∧ Below w.heap.size w w2 from ⟨⟨u3, rfl, hr3⟩, hb w HW.out⟩)
      clear hr3 hb how hpm hok
      go_wp2_with fail
      exact bodyPost_ret (v := u3) (by simp [results, Try.results15, go_sem]) rfl FIN.out
    · intro x v w2 cnt2 hwx hlx hmx hrg2 hlt hg2 hs2 hen
      obtain ⟨a, ha, rfl⟩ : ∃ a, pl x = some a ∧ v = .int .i64 a := by
        unfold im at hmx
        cases hq : pl x with
        | none => rw [hq] at hmx; cases hmx
        | some a => rw [hq] at hmx; exact ⟨a, rfl, by simpa using hmx.symm⟩
      have h0 := H0.out
      obtain ⟨hal, han⟩ := (h0.pls x a).1 ha
      have har := h0.ts.rng a (List.mem_append_left _ (Shape.leafs h0.ts.sh a hal).1)
      obtain ⟨a, rfl⟩ : ∃ n : Nat, a = n := ⟨a.toNat, by omega⟩
      have haN : a < T.N := by omega
      obtain ⟨e, hee⟩ : ∃ e, ent T.m a = e := ⟨_, rfl⟩
      have heL : e ∈ L := by rw [← hee]; exact h0.mem hal
      have hen1 : e.n = x := by rw [← hee]; exact han
      have heb : (T.m a).b = e.b := by rw [← hee]; rfl
      have hW2 : Below w.heap.size w w2 := HP.out.bel.grown hg2 HP.out.bel.size (fun k hk => by cases hk; rw [hB]; exact Nat.le_refl _)
      have h2 := h0.step hW2
      have hT2 : TN w2 T := by
        rcases h2.ts.tx.to with ⟨q, _⟩ | q
        · omega
        · exact q
      have c2 := hT2.nodes
      have lp := (TN.lt hT2).1
      have a0 : 0 ≤ (a : Int) ∧ (a : Int) < T.N := by omega
      have hat : At' w2 T.g (a * 17 + 6) [.int .i64 e.b.lo.x, .int .i64 e.b.lo.y, .int .i64 e.b.lo.z, .int .i64 e.b.hi.x, .int .i64 e.b.hi.y, .int .i64 e.b.hi.z] := fun j u hj => by
        have hj6 : j < 6 := by
          rcases Nat.lt_or_ge j 6 with h | h
          · exact h
          · rw [List.getElem?_eq_none (by exact h)] at hj; cases hj
        rw [Nat.add_assoc]
        refine hT2.cell haN ?_
        show (bdv (T.m a).fat ++ bdv (T.m a).b ++ _)[6 + j]? = _
        rw [heb, List.append_assoc, List.getElem?_append_right (by show 6 ≤ 6 + j; omega)]
        rw [show 6 + j - (bdv (T.m a).fat).length = j by show 6 + j - 6 = j; omega, List.getElem?_append_left (by exact hj6)]
        exact hj
      have hOw2 : OwnS w2 w.heap.size u3 ol := ownS_kept HP.out.ow hg2 fun k hk e => HP.out.ap (by rw [hk]; exact e.symm)
      have HTI2 := Lib.hid (HTI.out.step hW2)
      have HR2 := Lib.hid hrg2; have HW2 := Lib.hid hW2; have HO2 := Lib.hid hOw2
      clear hT2 h2 hrg hDD hg2 hs2 hrg2 hW2 hOw2 h0 har hmx
      go_wp2_with (refine wpL_at (l := [.int .i64 e.b.lo.x, .int .i64 e.b.lo.y, .int .i64 e.b.lo.z, .int .i64 e.b.hi.x, .int .i64 e.b.hi.y, .int .i64 e.b.hi.z]) (by rfl) (by rfl) hat Try.underlying35 (by rfl) (by kernel_rfl) (by kernel_rfl) ?_; (conv => arg 5; simp only [Act.put, List.setIfInBounds_toArray, List.set_cons_zero, List.set_cons_succ]))
      refine (tmeetC (x := e.b) w2 HTI2.out hK).mono ?_
      rintro e1 w3 ⟨⟨lv3, rfl, hlv⟩, hS3⟩
      obtain ⟨lm, hlm⟩ : ∃ lm, meetL L e.b = lm := ⟨_, rfl⟩
      rw [hlm] at hlv
      have hlml : lm.length ≤ L.length := by
        rw [← hlm]; unfold meetL tell
        rw [List.length_map]; exact List.length_filter_le _ _
      obtain ⟨A, cap, rfl, _, hA3, _⟩ := hlv.sl
      have elen : (iv lm).length = lm.length := iv_len lm
      rw [elen] at hlv ⊢
      have hrg3 := HR2.out.kept (w' := w3) (row := none) ⟨hS3.os, hS3.tape, hS3.output, hS3.size, fun k hk _ => hS3.block k hk⟩ (by simp) (by simp)
      have PI0 : PI w w3 b B c D (fun z => left z && !z.sameKey (kl x)) cnt2 x u3 (.slice A lm.length cap) lm ol ol 0 := by
        refine ⟨hrg3, HO2.out.step hS3, HP.out.ap, hlv.mono (Nat.zero_le _), fun k hk e => ?_, HW2.out.trans (hS3.mono HW2.out.size), by simp⟩
        have h1 := (hlv.lt k hk).1
        have h2 := HO2.out.lt k e
        omega
      have HPI := Lib.hid PI0
      clear hlv hrg3 PI0 hS3 HO2 HW2 HR2 HTI2 hat c2 lp hen
      go_wp2_with fail
      have hol : ol.length ≤ 62500 := Nat.le_trans (len_ok HTI.out.rise HP.out.ks_.1 HP.out.es_ HP.out.ol_) (Nat.mul_le_mul hL hL)
      go_loopw [3, 38] (fun o i wx => ∃ j ol2, i = .int .i64 ((j : Nat) : Int) ∧ j ≤ lm.length ∧ PI w wx b B c D (fun z => left z && !z.sameKey (kl x)) cnt2 x o (.slice A lm.length cap) lm ol ol2 j) (fun _ i _ => lm.length - (RowKit.intOf i).toNat)
      case atStart => exact ⟨0, ol, rfl, Nat.zero_le _, HPI.out⟩
      case round =>
        clear HPI
        obtain ⟨j, ol2, rfl, hj, hPI⟩ := hrel
        by_cases hjl : j < lm.length
        · have t1 : decide ((j : Int) < (lm.length : Int)) = true := by simpa using hjl
          obtain ⟨y, hy⟩ : ∃ y, lm[j]? = some y := ⟨_, List.getElem?_eq_getElem hjl⟩
          obtain ⟨g, rfl⟩ : ∃ g, A = some ⟨g, 0, none⟩ := by
            rcases hA3 with ⟨_, _, e0⟩ | q
            · have : lm = [] := by simpa [iv] using e0
              rw [this] at hjl; exact absurd hjl (by simp)
            · exact q
          have hcy : wr.cell? ⟨g, j, none⟩ = some (.int .i64 y) := by
            obtain ⟨A', cap', e', hs, _, _⟩ := hPI.lv_.sl
            rw [elen] at e' hs
            obtain ⟨b', off, e2, _, hc⟩ := hs.2 (by omega)
            have eA : some ⟨g, 0, none⟩ = A' := by injection e'
            rw [← eA] at e2
            cases e2
            have := hc j (.int .i64 y) (by unfold iv; rw [List.getElem?_map, hy]; rfl)
            rwa [Nat.zero_add] at this
          have j0 : 0 ≤ (j : Int) ∧ (j : Int) < (lm.length : Int) := by omega
          have v1 : IntKind.i64.wrap ((j : Int) + 1) = ((j + 1 : Nat) : Int) := by rw [IntKind.wrap_i64]; omega
          have HI := Lib.hid hPI
          have hwx := hPI.bel.size
          clear hPI
          by_cases hxy : x < y
          · have t2 : decide (x < y) = true := decide_eq_true hxy
            have hS4 : Below wr.heap.size wr (wr.alloc (.cells (prv ⟨x, y⟩).toArray 64)) := (Below.refl _ _).alloc (Nat.le_refl _) _
            have hO4 := HI.out.ow.step hS4
            have hB4 : Box (wr.alloc (.cells (prv ⟨x, y⟩).toArray 64)) wr.heap.size (prv ⟨x, y⟩) 64 := Box.new rfl
            have hl4 : ol2.length ≤ 100000 := by
              rw [HI.out.ol2_, List.length_append, List.length_map]
              have h1 := List.length_filter_le (fun m => decide (x < m)) (lm.take j)
              have h2 := List.length_take_le j lm
              omega
            have hb4 : w.heap.size ≤ (wr.alloc (.cells (prv ⟨x, y⟩).toArray 64)).heap.size := by have := hS4.size; omega
            have HS4 := Lib.hid hS4
            clear hS4
            go_wp2_with (at_builtin; refine wpP_app (p := ⟨x, y⟩) (by rfl) (.tmp 45) (.tmp 49) (by rfl) (by rfl) hO4 (by rfl) hB4 hl4 hb4 ?_; intro v6 w6 hO6 hG6 hL6 hB6)
            have hge := ownBlock_ge HI.out.ow
            have hsz4 := HS4.out.size
            refine ⟨⟨j + 1, _, rfl, by omega, ⟨(HI.out.rg.alloc _).kept hG6 (fun e => ?_) (fun e => HI.out.ap e.symm), hO6, fun e => ?_, (HI.out.lv_.step HS4.out).block (fun k hk hlt => hG6.block k hlt fun e => HI.out.ap2 k hk e.symm), fun k hk e => ?_, hB6 w (HI.out.bel.trans (HS4.out.mono hwx)), ?_⟩⟩, by simp [RowKit.intOf]; omega⟩
            · have := hge b e.symm
              have := H0.out.ts.tx.vm.lt; omega
            · rcases hL6 with h | h
              · exact HI.out.ap (by rw [← h]; exact e)
              · rw [h] at e; injection e with e
                have e3 : (wr.alloc (.cells (prv ⟨x, y⟩).toArray 64)).heap.size = B := e
                have := HI.out.rg.lt; omega
            · rcases hL6 with h | h
              · exact HI.out.ap2 k hk (by rw [← h]; exact e)
              · rw [h] at e; injection e with e
                have e3 : (wr.alloc (.cells (prv ⟨x, y⟩).toArray 64)).heap.size = k := e
                have := (HI.out.lv_.lt k hk).2; omega
            · rw [HI.out.ol2_, take_more hy, List.filter_append, List.map_append, List.append_assoc]
              simp [hxy]
          · have t2 : decide (x < y) = false := decide_eq_false hxy
            go_wp2_with fail
            exact ⟨⟨j + 1, ol2, rfl, by omega, ⟨HI.out.rg, HI.out.ow, HI.out.ap, HI.out.lv_, HI.out.ap2, HI.out.bel, by rw [HI.out.ol2_, take_more hy, List.filter_append]; simp [hxy]⟩⟩, by simp [RowKit.intOf]; omega⟩
        · obtain rfl : j = lm.length := by omega
          have t1 : decide ((lm.length : Int) < (lm.length : Int)) = false := by simp
          have HI := Lib.hid hPI
          clear hPI
          go_wp2_with fail
          have h1 := PO.step_ HP.out heL (by rw [hen1]; exact hlx) (by rw [hen1]; exact hwx) (by rw [hen1]; exact HI.out.rg) HI.out.ow HI.out.ap (by
            rw [HI.out.ol2_, List.take_length]
            unfold pairsOf
            rw [hlm, hen1]) HI.out.bel
          exact ⟨⟨_, _, _, _, _, h1⟩, by rw [h1.rg.left_eq, HP.out.rg.left_eq]; exact hlt⟩
end TPr
end Go.Proofs.Ytbcjnckejkjfeaa
namespace Go.Proofs.Ytbcjnckejkjfeaa
set_option linter.unusedVariables false
set_option linter.unusedSimpArgs false
open Go.RowKit Go.NP
namespace TAw
open TrX QVl TrE TrI TPu TSt TNw TMe TPp TPr
def cubeS (l h : Int) : Bd := ⟨⟨l, l, l⟩, ⟨h, h, h⟩⟩
set_option maxRecDepth 100000 in
set_option maxHeartbeats 2000000 in
theorem cubeC (l h : Int) (w : World) : RetB Try.prog 26 #[.int .i64 l, .int .i64 h] w (.agg #[.int .i64 (cubeS l h).lo.x, .int .i64 (cubeS l h).lo.y, .int .i64 (cubeS l h).lo.z, .int .i64 (cubeS l h).hi.x, .int .i64 (cubeS l h).hi.y, .int .i64 (cubeS l h).hi.z]) := by
  unfold RetB
  go_enter Try.func26, Try.ntmps26
  go_wp2_with fail
  exact bodyPost_ret (v := .agg #[.int .i64 (cubeS l h).lo.x, .int .i64 (cubeS l h).lo.y, .int .i64 (cubeS l h).lo.z, .int .i64 (cubeS l h).hi.x, .int .i64 (cubeS l h).hi.y, .int .i64 (cubeS l h).hi.z]) (by simp [results, Try.results26, go_sem, cubeS, *]) rfl ⟨rfl, (Below.refl _ _).alloc (Nat.le_refl _) _⟩
def L0 : List En := putL 1 (putL 1 (putL 1 [] 1 (cubeS 0 2)) 2 (cubeS 2 3)) 3 (cubeS 9 9)
theorem e1 : putE [] 1 (cubeS 0 2) = 0 := by decide
theorem e2 : putE (putL 1 [] 1 (cubeS 0 2)) 2 (cubeS 2 3) = 0 := by decide
theorem e3 : putE (putL 1 (putL 1 [] 1 (cubeS 0 2)) 2 (cubeS 2 3)) 3 (cubeS 9 9) = 0 := by decide
theorem l3 : L0.length = 3 := by decide
theorem p3 : pairsP L0 = [⟨1, 2⟩] := by decide
theorem m3 : meetL L0 (cubeS 1 9) = [1, 2, 3] ∧ errIf (cubeS 1 9).ok = 0 := by decide
theorem s3 : setM L0 3 (cubeS 10 10) = false ∧ setE L0 3 (cubeS 10 10) = 0 := by decide
theorem s4 : setM (setL 1 L0 3 (cubeS 10 10)) 3 (cubeS 11 11) = true ∧ setE (setL 1 L0 3 (cubeS 10 10)) 3 (cubeS 11 11) = 0 := by decide
theorem put1 {p K : Nat} {L : List En} {S : Nat → Prop} {n : Int} {x : Bd} (w : World) (h : TI w p 1 L S K) (hK : K < 80000) (he : putE L n x = 0) : Calls Try.prog 19 #[.pointer (some ⟨p, 0, none⟩), .int .i64 n, .agg #[.int .i64 x.lo.x, .int .i64 x.lo.y, .int .i64 x.lo.z, .int .i64 x.hi.x, .int .i64 x.hi.y, .int .i64 x.hi.z]] w fun e w' => e = .returned (.int .i64 0) ∧ ∃ S', TI w' p 1 (putL 1 L n x) S' (K + 4) ∧ Aft2 w w' S S' := by
  have := putC (n := n) (x := x) w h hK
  rw [he] at this; exact this
/-- What is turned lies in new blocks. -/
structure New (w0 w : World) (S : Nat → Prop) : Prop where
  bel : Below w0.heap.size w0 w
  new : ∀ k, S k → w0.heap.size ≤ k
theorem New.aft {w0 w w' : World} {S S' : Nat → Prop} (h : New w0 w S) (k : Aft2 w w' S S') : New w0 w' S' :=
  ⟨k.fr.below h.new h.bel h.bel.size, fun j hj => (k.ow j hj).elim (h.new j) fun q => by have := h.bel.size; omega⟩
theorem New.step {w0 w w' : World} {S : Nat → Prop} (h : New w0 w S) (k : Below w.heap.size w w') : New w0 w' S := ⟨h.bel.trans (k.mono h.bel.size), h.new⟩
set_option maxRecDepth 100000 in
set_option maxHeartbeats 4000000 in
theorem awakeC (w : World) : RetB Try.prog 9 #[] w (.bool true) := by
  unfold RetB
  go_enter Try.func9, Try.ntmps9
  go_wp2_with fail
  refine (newC (mg := 1) w (by omega)).mono ?_
  rintro e w1 ⟨p, S1, rfl, h1, hs1, hb1⟩
  have n1 : New w w1 S1 := ⟨hb1, hs1⟩
  clear hs1 hb1
  go_wp2_with fail
  refine (cubeC 0 2 w1).mono ?_
  rintro e w2 ⟨rfl, hb⟩
  have h2 := h1.step hb
  have n2 := n1.step hb
  clear h1 n1 hb
  go_wp2_with fail
  refine (put1 (x := cubeS 0 2) w2 h2 (by omega) e1).mono ?_
  rintro e w3 ⟨rfl, S3, h3, a3⟩
  have n3 := n2.aft a3
  clear h2 n2 a3
  go_wp2_with fail
  refine (cubeC 2 3 w3).mono ?_
  rintro e w4 ⟨rfl, hb⟩
  have h4 := h3.step hb
  have n4 := n3.step hb
  clear h3 n3 hb
  go_wp2_with fail
  refine (put1 (x := cubeS 2 3) w4 h4 (by omega) e2).mono ?_
  rintro e w5 ⟨rfl, S5, h5, a5⟩
  have n5 := n4.aft a5
  clear h4 n4 a5
  go_wp2_with fail
  refine (cubeC 9 9 w5).mono ?_
  rintro e w6 ⟨rfl, hb⟩
  have h6 := h5.step hb
  have n6 := n5.step hb
  clear h5 n5 hb
  go_wp2_with fail
  refine (put1 (x := cubeS 9 9) w6 h6 (by omega) e3).mono ?_
  rintro e w7 ⟨rfl, S7, h7, a7⟩
  have n7 := n6.aft a7
  have h7 : TI w7 p 1 L0 S7 (0 + 4 + 4 + 4) := h7
  clear h6 n6 a7
  go_wp2_with fail
  refine (pairsC w7 h7 (by omega) (by rw [l3]; omega)).mono ?_
  rintro e w8 ⟨⟨pv, rfl, hpv⟩, hb⟩
  rw [p3] at hpv
  have h8 := h7.step hb
  have n8 := n7.step hb
  have HB7 := Lib.hid hb.size
  obtain ⟨g, cap, rfl, hge, hgl, hsl⟩ : ∃ g cap, pv = .slice (some ⟨g, 0, none⟩) 1 cap ∧ w7.heap.size ≤ g ∧ g < w8.heap.size ∧ At' w8 g 0 (prv ⟨1, 2⟩) := by
    rcases hpv.2 with ⟨_, q⟩ | ⟨g, cap, cur, e, q1, q2, _⟩
    · cases q
    · obtain ⟨A, cap', e', q3⟩ := hpv.sl
      rw [e] at e'
      injection e' with e1 e2 e3
      obtain ⟨b, off, e4, _, q5⟩ := q3.2 (by decide)
      rw [← e1] at e4
      cases e4
      exact ⟨g, cap, e, q1, (Array.getElem?_eq_some_iff.1 q2).1, q5 0 _ rfl⟩
  have HNS := Lib.hid (fun k (hk : S7 k) => (show k ≠ g from by have := h7.lt k hk; omega))
  clear h7 n7 hb hpv
  go_wp2_with fail
  refine (cubeC 1 9 w8).mono ?_
  rintro e w9 ⟨rfl, hb⟩
  have h9 := h8.step hb
  have n9 := n8.step hb
  have s9 := hsl.step hgl hb
  have g9 : g < w9.heap.size := by have := hb.size; omega
  clear h8 n8 hsl hb hgl
  go_wp2_with fail
  refine (tmeetC (x := cubeS 1 9) w9 h9 (by omega)).mono ?_
  rintro e w10 ⟨⟨mv, rfl, hmv⟩, hb⟩
  rw [m3.1] at hmv
  rw [m3.2]
  have h10 := h9.step hb
  have n10 := n9.step hb
  have s10 := s9.step g9 hb
  have g10 : g < w10.heap.size := by have := hb.size; omega
  clear h9 n9 s9 hb g9
  obtain ⟨A2, cap2, rfl, _, _, _⟩ := hmv.sl
  clear hmv
  go_wp2_with fail
  refine (cubeC 10 10 w10).mono ?_
  rintro e w11 ⟨rfl, hb⟩
  have h11 := h10.step hb
  have n11 := n10.step hb
  have s11 := s10.step g10 hb
  have g11 : g < w11.heap.size := by have := hb.size; omega
  clear h10 n10 s10 hb g10
  go_wp2_with fail
  refine (setC (x := cubeS 10 10) w11 h11 (by omega)).mono ?_
  rintro e w12 ⟨rfl, S12, h12, a12⟩
  rw [s3.1, s3.2]
  have s12 : At' w12 g 0 (prv ⟨1, 2⟩) := fun j v hv => by
    rw [World.cell?_of_block (a12.fr.block g g11 fun q => HNS.out g q rfl)]; exact s11 j v hv
  have g12 : g < w12.heap.size := by have := a12.fr.size; omega
  have N12 := Lib.hid (fun (q : S12 g) => (show False from (a12.ow g q).elim (fun r => HNS.out g r rfl) (fun r => by omega)))
  have n12 := n11.aft a12
  clear h11 n11 s11 a12 g11
  go_wp2_with fail
  refine (cubeC 11 11 w12).mono ?_
  rintro e w13 ⟨rfl, hb⟩
  have h13 := h12.step hb
  have n13 := n12.step hb
  have s13 := s12.step g12 hb
  have g13 : g < w13.heap.size := by have := hb.size; omega
  clear h12 n12 s12 hb g12
  go_wp2_with fail
  refine (setC (x := cubeS 11 11) w13 h13 (by omega)).mono ?_
  rintro e w14 ⟨rfl, S14, h14, a14⟩
  rw [s4.1, s4.2]
  have s14 : At' w14 g 0 (prv ⟨1, 2⟩) := fun j v hv => by
    rw [World.cell?_of_block (a14.fr.block g g13 N12.out)]; exact s13 j v hv
  have n14 := n13.aft a14
  clear h13 n13 s13 a14 g13 h14
  have eiv : (iv [1, 2, 3]).length = 3 := rfl
  rw [eiv]
  go_wp2_with (refine wpL_at (l := [.int .i64 1, .int .i64 2]) (by rfl) (by rfl) s14 Try.underlying64 (by rfl) (by kernel_rfl) (by kernel_rfl) ?_; (conv => arg 5; simp only [Act.put, List.setIfInBounds_toArray, List.set_cons_zero, List.set_cons_succ]))
  exact bodyPost_ret (v := .bool true) (by simp [results, Try.results9, go_sem]) rfl ⟨rfl, n14.bel⟩
end TAw
end Go.Proofs.Ytbcjnckejkjfeaa
namespace Go.Proofs.Ytbcjnckejkjfeaa
set_option linter.unusedVariables false
set_option linter.unusedSimpArgs false
open Go.Joins Go.ChangeShapes Go.WideShapes Go.ChangeAt Go.RowKit Go.Deep Go.NP
theorem own : ownKnob Try.prog.godebug = none := by kernel_rfl
theorem laidOut : laidOutB Try.prog = true := by kernel_rfl
theorem cellsPt : Try.prog.cellsOf 33 = 3 := by kernel_rfl
theorem cellsBd : Try.prog.cellsOf 35 = 6 := by kernel_rfl
theorem cellsI : Try.prog.cellsOf 2 = 1 := by kernel_rfl
section
variable {H : Type} {enc : TypeId × Value → H} {w : World} {base : Nat} {spare : Nat → Bool} {held : Bool}
theorem open_pt3 {n : Nat} {c0 c1 c2 : Value} {x : DataW H × List MemPlace} (h : DataW.trod enc Try.prog w base spare held n 33 [c0, c1, c2] = some x) : ∃ p : Pt, c0 = .int .i64 p.x ∧ c1 = .int .i64 p.y ∧ c2 = .int .i64 p.z := by
  obtain ⟨xs, m, _, hx, _, hlen, hg⟩ := DataW.trod_struct Try.underlying33 h
  match xs, hlen with
  | [y0, y1, y2], _ =>
    have g0 : DataW.trod enc Try.prog w base spare held m 2 [c0] = some y0 := by
      have t : DataW.trod enc Try.prog w base spare held m 2 (List.take (Try.prog.cellsOf 2) (List.drop 0 [c0, c1, c2])) = some y0 := hg 0 _ rfl
      rw [cellsI] at t; exact t
    have g1 : DataW.trod enc Try.prog w base spare held m 2 [c1] = some y1 := by
      have t : DataW.trod enc Try.prog w base spare held m 2 (List.take (Try.prog.cellsOf 2) (List.drop 1 [c0, c1, c2])) = some y1 := hg 1 _ rfl
      rw [cellsI] at t; exact t
    have g2 : DataW.trod enc Try.prog w base spare held m 2 [c2] = some y2 := by
      have t : DataW.trod enc Try.prog w base spare held m 2 (List.take (Try.prog.cellsOf 2) (List.drop 2 [c0, c1, c2])) = some y2 := hg 2 _ rfl
      rw [cellsI] at t; exact t
    obtain ⟨a, ha, _⟩ := DataW.trod_int Try.underlying2 g0
    obtain ⟨b, hb, _⟩ := DataW.trod_int Try.underlying2 g1
    obtain ⟨c, hc, _⟩ := DataW.trod_int Try.underlying2 g2
    simp only [List.cons.injEq, and_true] at ha hb hc
    exact ⟨⟨a, b, c⟩, ha, hb, hc⟩
set_option maxRecDepth 100000 in
theorem open_bd {r : Reach} {b0 : Nat} {v : Value} {d : DataW H} {p : List MemPlace} (hv : Value.okWide Try.prog w r b0 35 v) (h : DataW.Trod enc Try.prog w base spare held 35 v d p) : ∃ a : Bd, v = .agg #[.int .i64 a.lo.x, .int .i64 a.lo.y, .int .i64 a.lo.z, .int .i64 a.hi.x, .int .i64 a.hi.y, .int .i64 a.hi.z] := by
  obtain ⟨cs, rfl, hsz⟩ := okWide_struct Try.underlying35 hv
  obtain ⟨l⟩ := cs
  match l, hsz.trans cellsBd with
  | [c0, c1, c2, c3, c4, c5], _ =>
    obtain ⟨fuel, hf⟩ := h
    obtain ⟨xs, n, _, hx, _, hlen, hg⟩ := DataW.trod_struct Try.underlying35 hf
    match xs, hlen with
    | [y0, y1], _ =>
      have g0 : DataW.trod enc Try.prog w base spare held n 33 [c0, c1, c2] = some y0 := by
        have t : DataW.trod enc Try.prog w base spare held n 33 (List.take (Try.prog.cellsOf 33) (List.drop 0 [c0, c1, c2, c3, c4, c5])) = some y0 := hg 0 _ rfl
        rw [cellsPt] at t; exact t
      have g1 : DataW.trod enc Try.prog w base spare held n 33 [c3, c4, c5] = some y1 := by
        have t : DataW.trod enc Try.prog w base spare held n 33 (List.take (Try.prog.cellsOf 33) (List.drop 3 [c0, c1, c2, c3, c4, c5])) = some y1 := hg 1 _ rfl
        rw [cellsPt] at t; exact t
      obtain ⟨lo, rfl, rfl, rfl⟩ := open_pt3 g0
      obtain ⟨hi, rfl, rfl, rfl⟩ := open_pt3 g1
      exact ⟨⟨lo, hi⟩, rfl⟩
set_option maxRecDepth 100000 in
theorem open_pt {r : Reach} {b0 : Nat} {v : Value} {d : DataW H} {p : List MemPlace} (hv : Value.okWide Try.prog w r b0 33 v) (h : DataW.Trod enc Try.prog w base spare held 33 v d p) : ∃ a : Pt, v = .agg #[.int .i64 a.x, .int .i64 a.y, .int .i64 a.z] := by
  obtain ⟨cs, rfl, hsz⟩ := okWide_struct Try.underlying33 hv
  obtain ⟨l⟩ := cs
  match l, hsz.trans cellsPt with
  | [c0, c1, c2], _ =>
    obtain ⟨fuel, hf⟩ := h
    obtain ⟨p, rfl, rfl, rfl⟩ := open_pt3 (by simpa [Value.cells] using hf)
    exact ⟨p, rfl⟩
end
end Go.Proofs.Ytbcjnckejkjfeaa
namespace Go.Proofs.Ytbcjnckejkjfeaa
set_option linter.unusedVariables false
set_option linter.unusedSimpArgs false
open Go.Joins Go.ChangeShapes Go.WideShapes Go.ChangeAt Go.RowKit Go.Deep Go.NP
namespace OpL
instance : Inhabited Bd := ⟨⟨⟨0, 0, 0⟩, ⟨0, 0, 0⟩⟩⟩
def bdl (x : Bd) : List Value := [.int .i64 x.lo.x, .int .i64 x.lo.y, .int .i64 x.lo.z, .int .i64 x.hi.x, .int .i64 x.hi.y, .int .i64 x.hi.z]
/-- A slice of bounds. -/
def SlB (w : World) (A : Option Addr) (n : Nat) (l : List Bd) : Prop := l.length = n ∧ (0 < n → ∃ b off, A = some ⟨b, off, none⟩ ∧ b < w.heap.size ∧ ∀ (k : Nat) x, l[k]? = some x → At' w b (off + k * 6) (bdl x))
theorem SlB.step {w w' : World} {A : Option Addr} {n : Nat} {l : List Bd} (h : SlB w A n l) (hS : Below w.heap.size w w') : SlB w' A n l :=
  ⟨h.1, fun hn => by obtain ⟨b, off, h1, h2, h3⟩ := h.2 hn; exact ⟨b, off, h1, by have := hS.size; omega, fun k x hk => (h3 k x hk).step h2 hS⟩⟩
theorem spot_none {w : World} {a : Addr} {v : Value} (h : w.cell? a = some v) : a.spot = none ∧ a.block < w.heap.size := by
  unfold World.cell? at h
  split at h
  · rename_i hb
    split at h
    · cases h
    · rename_i hs
      refine ⟨by simpa using hs, ?_⟩
      rcases Nat.lt_or_ge a.block w.heap.size with h' | h'
      · exact h'
      · rw [Array.getElem?_eq_none h'] at hb; cases hb
  · cases h
theorem add_plain (b off n : Nat) : (⟨b, off, none⟩ : Addr).add n = ⟨b, off + n, none⟩ := by
  unfold Addr.add
  by_cases h : n = 0
  · simp [h]
  · simp [h]
theorem get_len {α : Type} {l : List α} {j : Nat} {v : α} (h : l[j]? = some v) : j < l.length := by
  rcases Nat.lt_or_ge j l.length with h' | h'
  · exact h'
  · rw [List.getElem?_eq_none h'] at h; cases h
section
variable {H : Type} {enc : TypeId × Value → H} {w : World} {base : Nat} {spare : Nat → Bool} {held : Bool}
theorem open_bd6 {n : Nat} {c0 c1 c2 c3 c4 c5 : Value} {x : DataW H × List MemPlace} (h : DataW.trod enc Try.prog w base spare held n 35 [c0, c1, c2, c3, c4, c5] = some x) : ∃ a : Bd, [c0, c1, c2, c3, c4, c5] = bdl a := by
  obtain ⟨xs, m, _, hx, _, hlen, hg⟩ := DataW.trod_struct Try.underlying35 h
  match xs, hlen with
  | [y0, y1], _ =>
    have g0 : DataW.trod enc Try.prog w base spare held m 33 [c0, c1, c2] = some y0 := by
      have t : DataW.trod enc Try.prog w base spare held m 33 (List.take (Try.prog.cellsOf 33) (List.drop 0 [c0, c1, c2, c3, c4, c5])) = some y0 := hg 0 _ rfl
      rw [cellsPt] at t; exact t
    have g1 : DataW.trod enc Try.prog w base spare held m 33 [c3, c4, c5] = some y1 := by
      have t : DataW.trod enc Try.prog w base spare held m 33 (List.take (Try.prog.cellsOf 33) (List.drop 3 [c0, c1, c2, c3, c4, c5])) = some y1 := hg 1 _ rfl
      rw [cellsPt] at t; exact t
    obtain ⟨lo, rfl, rfl, rfl⟩ := open_pt3 g0
    obtain ⟨hi, rfl, rfl, rfl⟩ := open_pt3 g1
    exact ⟨⟨lo, hi⟩, rfl⟩
set_option maxRecDepth 100000 in
theorem open_bds {r : Reach} {b0 : Nat} {v : Value} {d : DataW H} {p : List MemPlace} (hv : Value.okWide Try.prog w r b0 22 v) (h : DataW.Trod enc Try.prog w base spare held 22 v d p) :
    ∃ A n cap l, v = .slice A n cap ∧ SlB w A n l := by
  obtain ⟨A, n, cap, rfl⟩ := okWide_slice Try.underlying22 hv
  obtain ⟨fuel, hf⟩ := h
  have hf : DataW.trod enc Try.prog w base spare held fuel 22 [.slice A n cap] = some (d, p) := hf
  rcases open_slice Try.underlying22 hf with ⟨h0, _⟩ | ⟨a, len, cap', m, nn, D, Pl, hcs, hb, hl, hm, hmm, hx, hi⟩
  · simp only [List.cons.injEq, Value.slice.injEq, and_true] at h0
    obtain ⟨rfl, rfl, rfl⟩ := h0
    exact ⟨none, 0, 0, [], rfl, rfl, fun h => absurd h (by omega)⟩
  · simp only [List.cons.injEq, Value.slice.injEq, and_true] at hcs
    obtain ⟨rfl, rfl, rfl⟩ := hcs
    have hmn : n ≤ m := by rw [hmm]; split <;> omega
    have key : ∀ i, i < n → ∃ s : Bd, ∀ j v, (bdl s)[j]? = some v → w.cell? ((a.add (i * 6)).add j) = some v := by
      intro i hin
      obtain ⟨cs', hc, ht'⟩ := hi i (by omega)
      rw [cellsBd] at hc
      obtain ⟨_, hcl, hat⟩ := World.cells?_some hc
      match cs', hcl with
      | [c0, c1, c2, c3, c4, c5], _ =>
        obtain ⟨s, hs⟩ := open_bd6 ht'
        refine ⟨s, fun j v hv => ?_⟩
        rw [← hs] at hv
        have hj : j < 6 := get_len hv
        have := hat j hj
        rw [this]
        exact hv
    obtain ⟨f, hf'⟩ := choose_lt key
    refine ⟨some a, n, cap, (List.range n).map f, rfl, by simp, fun hn => ?_⟩
    obtain ⟨hs, hblk⟩ := spot_none (hf' 0 hn 0 _ rfl)
    obtain ⟨b, off, sp⟩ := a
    have hs : sp = none := by
      have : (Addr.mk b off sp).spot = none := by simpa [Addr.add] using hs
      exact this
    subst hs
    refine ⟨b, off, rfl, by simpa [add_plain] using hblk, fun k x hk j v hv => ?_⟩
    have hkn : k < n := by
      rcases Nat.lt_or_ge k n with h' | h'
      · exact h'
      · rw [List.getElem?_eq_none (by simp; exact h')] at hk; cases hk
    rw [List.getElem?_map, List.getElem?_range hkn] at hk
    simp only [Option.map_some, Option.some.injEq] at hk
    subst hk
    have := hf' k hkn j v hv
    simp only [add_plain] at this
    exact this
end
end OpL
end Go.Proofs.Ytbcjnckejkjfeaa
namespace Go.Proofs.Ytbcjnckejkjfeaa
set_option linter.unusedVariables false
set_option linter.unusedSimpArgs false
open Go.RowKit Go.NP
namespace TFi
open TrX QVl TrE TrI TPu TNw TAw
open OpL (SlB bdl)
/-- The entries of bounds by their places. -/
def ents (mg : Int) : List Bd → Int → List En
  | [], _ => []
  | x :: r, i => (if x.ok then [⟨i, x, grow x mg⟩] else []) ++ ents mg r (i + 1)
theorem ents_cons (mg : Int) (x : Bd) (r : List Bd) (i : Int) : ents mg (x :: r) i = (if x.ok then [⟨i, x, grow x mg⟩] else []) ++ ents mg r (i + 1) := rfl
theorem ents_mem {mg : Int} : ∀ {l : List Bd} {i : Int} {e : En}, e ∈ ents mg l i ↔ ∃ (k : Nat) (x : Bd), l[k]? = some x ∧ x.ok ∧ e = ⟨i + k, x, grow x mg⟩
  | [], i, e => by simp [ents]
  | x :: r, i, e => by
    rw [ents_cons, List.mem_append, ents_mem]
    constructor
    · rintro (h | ⟨k, y, h1, h2, rfl⟩)
      · split at h
        · rename_i hx
          rw [List.mem_singleton.1 h]
          exact ⟨0, x, rfl, hx, by simp⟩
        · cases h
      · exact ⟨k + 1, y, h1, h2, by congr 1; omega⟩
    · rintro ⟨k, y, h1, h2, rfl⟩
      cases k with
      | zero =>
        have : x = y := by simpa using h1
        subst this
        left; rw [if_pos h2]; simp
      | succ k => right; exact ⟨k, y, h1, h2, by congr 1; omega⟩
theorem ents_range {mg : Int} {l : List Bd} {i : Int} {e : En} (h : e ∈ ents mg l i) : i ≤ e.n ∧ e.n < i + l.length := by
  obtain ⟨k, x, h1, _, rfl⟩ := ents_mem.1 h
  have := OpL.get_len h1
  simp only; omega
theorem ents_snoc {mg : Int} : ∀ (l : List Bd) (x : Bd) (i : Int), ents mg (l ++ [x]) i = ents mg l i ++ (if x.ok then [⟨i + l.length, x, grow x mg⟩] else [])
  | [], x, i => by simp [ents]
  | y :: r, x, i => by
    rw [List.cons_append, ents_cons, ents_cons, ents_snoc r x (i + 1), List.append_assoc]
    have : i + 1 + (r.length : Int) = i + ((y :: r).length : Nat) := by simp; omega
    rw [this]
theorem put_no {mg n : Int} {L : List En} {x : Bd} (h : ¬ x.ok) : putL mg L n x = L := by
  unfold putL
  rw [if_neg]
  unfold putE
  by_cases hr : 1 ≤ n ∧ n ≤ 4096
  · rw [if_pos hr, if_neg h]; decide
  · rw [if_neg hr]; decide
theorem put_at {mg n : Int} {L : List En} {x : Bd} (h : x.ok) (hn : 1 ≤ n ∧ n ≤ 4096) (hi : isIn L n = false) : putL mg L n x = ins L ⟨n, x, grow x mg⟩ := by
  unfold putL
  rw [if_pos]
  unfold putE
  rw [if_pos hn, if_pos h, hi]; rfl
theorem lo_all {n : Int} : ∀ {L : List En}, (∀ a ∈ L, a.n < n) → lo L n = L ∧ hi L n = []
  | [], _ => ⟨rfl, rfl⟩
  | a :: r, h => by
    obtain ⟨h1, h2⟩ := lo_all (L := r) fun x hx => h x (List.mem_cons_of_mem _ hx)
    have ha : decide (a.n < n) = true := by simpa using h a (List.mem_cons_self ..)
    unfold lo hi at *
    rw [List.takeWhile_cons, List.dropWhile_cons, if_pos ha, if_pos ha, h1]
    exact ⟨rfl, h2⟩
theorem lo_none {L : List En} {n : Int} (h : ∀ a ∈ L, n < a.n) : lo L n = [] ∧ hi L n = L := by
  have h1 : lo L n = [] := by
    cases L with
    | nil => rfl
    | cons a r =>
      have := h a (List.mem_cons_self ..)
      have hx : ¬ a.n < n := by omega
      unfold lo
      simp [List.takeWhile_cons, hx]
  refine ⟨h1, ?_⟩
  have := lo_hi L n
  rw [h1, List.nil_append] at this; exact this
theorem put_back {mg i : Int} {l : List Bd} {x : Bd} (hi : 1 ≤ i) (hn : i + l.length ≤ 4096) : putL mg (ents mg l i) (i + l.length) x = ents mg (l ++ [x]) i := by
  rw [ents_snoc]
  by_cases h : x.ok
  · have hlt : ∀ a ∈ ents mg l i, a.n < i + l.length := fun a ha => (ents_range ha).2
    rw [put_at h (by omega) (not_in.2 fun e he => by have := hlt e he; omega), if_pos h]
    unfold ins
    rw [(lo_all (n := i + (l.length : Int)) hlt).1, (lo_all (n := i + (l.length : Int)) hlt).2]
  · rw [put_no h, if_neg h, List.append_nil]
theorem put_front {mg i : Int} {l : List Bd} {x : Bd} (hi : 1 ≤ i) (hn : i ≤ 4096) : putL mg (ents mg l (i + 1)) i x = ents mg (x :: l) i := by
  rw [ents_cons]
  by_cases h : x.ok
  · have hlt : ∀ a ∈ ents mg l (i + 1), i < a.n := fun a ha => by have := (ents_range ha).1; omega
    rw [put_at h ⟨hi, hn⟩ (not_in.2 fun e he => by have := hlt e he; omega), if_pos h]
    unfold ins
    rw [(lo_none hlt).1, (lo_none hlt).2]
    rfl
  · rw [put_no h, if_neg h]
    rfl
/-- While it is filled. -/
def fillS (mg : Int) (back : Bool) (l : List Bd) (k : Nat) : List En := if back then ents mg (l.drop (l.length - k)) ((l.length - k : Nat) + 1) else ents mg (l.take k) 1
theorem fill_all (mg : Int) (back : Bool) (l : List Bd) : fillS mg back l l.length = ents mg l 1 := by
  unfold fillS; split <;> simp
theorem fill_zero (mg : Int) (back : Bool) (l : List Bd) : fillS mg back l 0 = [] := by
  unfold fillS; split <;> simp [ents]
theorem fill_next {mg : Int} {back : Bool} {l : List Bd} {k : Nat} {x : Bd} (hk : k < l.length) (hl : l.length ≤ 4000) (hx : l[if back then l.length - 1 - k else k]? = some x) : putL mg (fillS mg back l k) (((if back then l.length - 1 - k else k) : Nat) + 1) x = fillS mg back l (k + 1) := by
  cases back with
  | true =>
    simp only [if_true] at hx ⊢
    unfold fillS
    simp only [if_true]
    have e1 : l.length - k = l.length - 1 - k + 1 := by omega
    have e2 : l.length - (k + 1) = l.length - 1 - k := by omega
    rw [e2, e1]
    have hd : l.drop (l.length - 1 - k) = x :: l.drop (l.length - 1 - k + 1) := by
      have hlt := OpL.get_len hx
      rw [List.drop_eq_getElem_cons hlt]
      rw [List.getElem?_eq_getElem hlt] at hx; cases hx; rfl
    rw [hd]
    have := put_front (mg := mg) (i := ((l.length - 1 - k : Nat) : Int) + 1) (l := l.drop (l.length - 1 - k + 1)) (x := x) (by omega) (by omega)
    rw [← this]
    congr 1
  | false =>
    simp only [Bool.false_eq_true, if_false] at hx ⊢
    unfold fillS
    simp only [Bool.false_eq_true, if_false]
    have ht : l.take (k + 1) = l.take k ++ [x] := by
      have hlt := OpL.get_len hx
      rw [List.take_succ_eq_append_getElem hlt]
      rw [List.getElem?_eq_getElem hlt] at hx; cases hx; rfl
    have hlen : (l.take k).length = k := by rw [List.length_take]; omega
    have := put_back (mg := mg) (i := 1) (l := l.take k) (x := x) (by omega) (by rw [hlen]; omega)
    rw [ht, ← this, hlen]
    congr 1
    omega
set_option maxRecDepth 100000 in
set_option maxHeartbeats 4000000 in
theorem filledC {mg : Int} {A : Option Addr} {n cap : Nat} {l : List Bd} {back : Bool} (w : World) (hm : 0 ≤ mg ∧ mg ≤ 1048576) (hs : SlB w A n l) (hn : n ≤ 1000) :
    Calls Try.prog 10 #[.int .i64 mg, .slice A n cap, .bool back] w fun e w' => ∃ p S, e = .returned (.pointer (some ⟨p, 0, none⟩)) ∧ TI w' p mg (ents mg l 1) S (4 * n) ∧ New w w' S := by
  have HS := Lib.hid hs
  have hln := hs.1
  have FL := Lib.hid (show fillS mg back l n = ents mg l 1 from by rw [← hln]; exact fill_all mg back l)
  clear hs
  go_enter Try.func10, Try.ntmps10
  go_wp2_with fail
  refine (newC w hm).mono ?_
  rintro e w1 ⟨p, S1, rfl, h1, hs1, hb1⟩
  have n1 : New w w1 S1 := ⟨hb1, hs1⟩
  clear hs1 hb1
  go_wp2_with fail
  go_loopw [9] (fun i wr => ∃ (k : Nat) (S : Nat → Prop), i = .int .i64 (k : Int) ∧ k ≤ n ∧ TI wr p mg (fillS mg back l k) S (4 * k) ∧ New w wr S) (fun i _ => n - (RowKit.intOf i).toNat)
  case atStart => exact ⟨0, S1, rfl, Nat.zero_le _, by rw [fill_zero]; exact h1, n1⟩
  case round =>
    clear h1 n1
    obtain ⟨k, S, rfl, hk, hti, hnw⟩ := hrel
    have HTI := Lib.hid hti; have HN := Lib.hid hnw
    clear hti hnw
    by_cases hlt : k < n
    · have t1 : decide ((k : Int) < (n : Int)) = true := by simpa using hlt
      have v1 : IntKind.i64.wrap ((k : Int) + 1) = ((k + 1 : Nat) : Int) := by rw [IntKind.wrap_i64]; omega
      obtain ⟨q, hq⟩ : ∃ q, (if back then n - 1 - k else k) = q := ⟨_, rfl⟩
      have hqn : q < n := by rw [← hq]; split <;> omega
      obtain ⟨x, hx⟩ : ∃ x, l[q]? = some x := ⟨_, List.getElem?_eq_getElem (by omega)⟩
      obtain ⟨b, off, rfl, hb, hat⟩ := HS.out.2 (by omega)
      have hat1 : At' wr b (off + q * 6) [.int .i64 x.lo.x, .int .i64 x.lo.y, .int .i64 x.lo.z, .int .i64 x.hi.x, .int .i64 x.hi.y, .int .i64 x.hi.z] := (hat q x hx).step hb HN.out.bel
      have hbr : b < wr.heap.size := by have := HN.out.bel.size; omega
      have hnx := fill_next (mg := mg) (back := back) (l := l) (k := k) (x := x) (by omega) (by omega) (by rw [hln, hq]; exact hx)
      rw [hln, hq] at hnx
      have HNX := Lib.hid hnx
      have q0 : 0 ≤ (q : Int) ∧ (q : Int) < (n : Int) := by omega
      have v2 : IntKind.i64.wrap ((q : Int) + 1) = (q : Int) + 1 := by rw [IntKind.wrap_i64]; omega
      clear hnx hx hat
      cases back with
      | true =>
        have hq' : n - 1 - k = q := by simpa using hq
        have v3 : IntKind.i64.wrap (IntKind.i64.wrap ((n : Int) - 1) - (k : Int)) = (q : Int) := by simp only [IntKind.wrap_i64]; omega
        go_wp2_with (refine wpL_at (l := [.int .i64 x.lo.x, .int .i64 x.lo.y, .int .i64 x.lo.z, .int .i64 x.hi.x, .int .i64 x.hi.y, .int .i64 x.hi.z]) (by rfl) (by rfl) hat1 Try.underlying35 (by rfl) (by kernel_rfl) (by kernel_rfl) ?_; (conv => arg 5; simp only [Act.put, List.setIfInBounds_toArray, List.set_cons_zero, List.set_cons_succ]))
        rw [show (n : Int) - 1 - (k : Int) + 1 = (q : Int) + 1 by omega]
        refine (putC (n := (q : Int) + 1) (x := x) wr HTI.out (by omega)).mono ?_
        rintro e w2 ⟨rfl, S2, h2, a2⟩
        rw [HNX.out] at h2
        have h3 := h2.mono (show 4 * k + 4 ≤ 4 * (k + 1) by omega)
        have n3 := HN.out.aft a2
        clear h2 a2 HTI HN hat1
        go_wp2_with fail
        exact ⟨⟨k + 1, S2, rfl, by omega, h3, n3⟩, by simp [RowKit.intOf]; omega⟩
      | false =>
        have hq' : k = q := by simpa using hq
        subst hq'
        go_wp2_with (refine wpL_at (l := [.int .i64 x.lo.x, .int .i64 x.lo.y, .int .i64 x.lo.z, .int .i64 x.hi.x, .int .i64 x.hi.y, .int .i64 x.hi.z]) (by rfl) (by rfl) hat1 Try.underlying35 (by rfl) (by kernel_rfl) (by kernel_rfl) ?_; (conv => arg 5; simp only [Act.put, List.setIfInBounds_toArray, List.set_cons_zero, List.set_cons_succ]))
        refine (putC (n := (k : Int) + 1) (x := x) wr HTI.out (by omega)).mono ?_
        rintro e w2 ⟨rfl, S2, h2, a2⟩
        rw [HNX.out] at h2
        have h3 := h2.mono (show 4 * k + 4 ≤ 4 * (k + 1) by omega)
        have n3 := HN.out.aft a2
        clear h2 a2 HTI HN hat1
        go_wp2_with fail
        exact ⟨⟨k + 1, S2, rfl, by omega, h3, n3⟩, by simp [RowKit.intOf]; omega⟩
    · obtain rfl : k = n := by omega
      have t1 : decide ((k : Int) < (k : Int)) = false := by simp
      go_wp2_with fail
      exact bodyPost_ret (v := .pointer (some ⟨p, 0, none⟩)) (by simp [results, Try.results10, go_sem]) rfl ⟨p, S, rfl, by rw [← FL.out]; exact HTI.out, HN.out⟩
set_option maxRecDepth 100000 in
set_option maxHeartbeats 2000000 in
theorem hasC {v : Value} {base : Nat} {l : List Int} {n : Int} (w : World) (h : OwnV w base 3 v (iv l)) (hl : l.length ≤ 100000) : RetB Try.prog 13 #[v, .int .i64 n] w (.bool (l.contains n)) := by
  obtain ⟨A, cap, rfl, hs, hA, hc⟩ := h.sl
  have elen : (iv l).length = l.length := iv_len l
  rw [elen] at hs ⊢
  clear h hc
  obtain ⟨m, hm⟩ : ∃ m, l.length = m := ⟨_, rfl⟩
  obtain ⟨res, hres⟩ : ∃ r, l.contains n = r := ⟨_, rfl⟩
  have HR := Lib.hid hres; have HM := Lib.hid hm; have HSL := Lib.hid hs
  rw [hm, hres]
  clear hs hres
  unfold RetB
  go_enter Try.func13, Try.ntmps13
  go_wp2_with fail
  go_loopw [5] (fun i wr => ∃ (k : Nat), i = .int .i64 (k : Int) ∧ k ≤ m ∧ wr = w ∧ n ∉ l.take k) (fun i _ => m - (RowKit.intOf i).toNat)
  case atStart => exact ⟨0, rfl, Nat.zero_le _, rfl, by simp⟩
  case round =>
    obtain ⟨k, rfl, hk, hww, hno⟩ := hrel
    replace hww := hww.symm
    subst hww
    by_cases hlt : k < m
    · have t1 : decide ((k : Int) < (m : Int)) = true := by simpa using hlt
      obtain ⟨x, hx⟩ : ∃ x, l[k]? = some x := ⟨_, List.getElem?_eq_getElem (by omega)⟩
      obtain ⟨b, off, rfl, hb, hcell⟩ := HSL.out.2 (by omega)
      have cx : w.cell? ⟨b, off + k, none⟩ = some (.int .i64 x) := hcell k _ (by unfold iv; rw [List.getElem?_map, hx]; rfl)
      have k0 : 0 ≤ (k : Int) ∧ (k : Int) < (m : Int) := by omega
      have v1 : IntKind.i64.wrap ((k : Int) + 1) = ((k + 1 : Nat) : Int) := by rw [IntKind.wrap_i64]; omega
      by_cases e : x = n
      · have e1 : (x == n) = true := by simpa using e
        have hr : res = true := by
          rw [← HR.out]
          have : n ∈ l := by rw [← e]; exact List.mem_of_getElem? hx
          simpa using this
        clear hcell
        go_wp2_with fail
        rw [hr]
        exact bodyPost_ret (v := .bool true) (by simp [results, Try.results13, go_sem]) rfl ⟨rfl, Below.refl _ _⟩
      · have e1 : (x == n) = false := by simpa using e
        have hno2 : n ∉ l.take (k + 1) := by
          rw [TPr.take_more hx, List.mem_append, List.mem_singleton]
          rintro (h | h)
          · exact hno h
          · exact e h.symm
        clear hcell hno
        go_wp2_with fail
        exact ⟨⟨k + 1, rfl, by omega, by simp, hno2⟩, by simp [RowKit.intOf]; omega⟩
    · obtain rfl : k = m := by omega
      have t1 : decide ((k : Int) < (k : Int)) = false := by simp
      have hr : res = false := by
        rw [← HR.out]
        rw [← hm, List.take_length] at hno
        simpa using hno
      go_wp2_with fail
      rw [hr]
      exact bodyPost_ret (v := .bool false) (by simp [results, Try.results13, go_sem]) rfl ⟨rfl, Below.refl _ _⟩
end TFi
end Go.Proofs.Ytbcjnckejkjfeaa
