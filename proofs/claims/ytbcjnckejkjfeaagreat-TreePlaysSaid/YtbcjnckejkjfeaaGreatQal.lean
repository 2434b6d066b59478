/- A tree in memory and its entries: what is so between calls. No condition. What stands against a number and a bound: asked, its walk. No condition. A bound put into a tree: the walk. Condition: the tree is there, and not too great. A bound dropped from a tree: the walk. Condition: the tree is there, and not too great. A number dropped from the document's tree. Condition: the tree is as told. -/
import Derived.Test.YtbcjnckejkjfeaaGreatQak
import Derived.Test.YtbcjnckejkjfeaaGreatQah
import Derived.Test.YtbcjnckejkjfeaaGreatQaj
namespace Go.Proofs.YtbcjnckejkjfeaaGreat
set_option linter.unusedVariables false
set_option linter.unusedSimpArgs false
open Go.RowKit Go.NP
namespace TrI
open TrP TrW TrC TrA TrF TrG TrX TrY TrK THg TCt QVl QVm TMp TrE
theorem Rep.frame4 {m m' : M} : ∀ {t : Tr} {u : Int}, (∀ i ∈ t.all, (m' i).u = (m i).u ∧ (m' i).n = (m i).n ∧ (m' i).l = (m i).l ∧ (m' i).r = (m i).r) → Rep m u t → Rep m' u t
  | .leaf i, u, he, h => by
    have := he i (List.mem_singleton.2 rfl)
    unfold Rep at *
    rw [this.1, this.2.1]; exact h
  | .node i l r, u, he, h => by
    have h0 := he i (List.mem_cons_self ..)
    unfold Rep at *
    rw [h0.1, h0.2.1, h0.2.2.1, h0.2.2.2]
    exact ⟨h.1, h.2.1, h.2.2.1, h.2.2.2.1, Rep.frame4 (fun j hj => he j (List.mem_cons_of_mem _ (List.mem_append_left _ hj))) h.2.2.2.2.1, Rep.frame4 (fun j hj => he j (List.mem_cons_of_mem _ (List.mem_append_right _ hj))) h.2.2.2.2.2⟩
theorem Fit.frameL {m m' : M} : ∀ {t : Tr}, (∀ i ∈ t.all, (m' i).fat = (m i).fat ∧ (m' i).h = (m i).h) → (∀ i ∈ t.lv, holds (m' i).fat (m' i).b = true) → Fit m t → Fit m' t
  | .leaf i, he, hb, h => by
    have := he i (List.mem_singleton.2 rfl)
    exact ⟨this.2.trans h.1, hb i (List.mem_singleton.2 rfl)⟩
  | .node i l r, he, hb, h => by
    have h0 := he i (List.mem_cons_self ..)
    have hl := he l.ix (List.mem_cons_of_mem _ (List.mem_append_left _ l.ix_all))
    have hr := he r.ix (List.mem_cons_of_mem _ (List.mem_append_right _ r.ix_all))
    unfold Fit at *
    rw [h0.1, h0.2, hl.1, hl.2, hr.1, hr.2]
    exact ⟨h.1, h.2.1, Fit.frameL (fun j hj => he j (List.mem_cons_of_mem _ (List.mem_append_left _ hj))) (fun j hj => hb j (List.mem_append_left _ hj)) h.2.2.1, Fit.frameL (fun j hj => he j (List.mem_cons_of_mem _ (List.mem_append_right _ hj))) (fun j hj => hb j (List.mem_append_right _ hj)) h.2.2.2⟩
theorem Fit.leafs {m : M} : ∀ {t : Tr}, Fit m t → ∀ i ∈ t.lv, (m i).h = 0 ∧ holds (m i).fat (m i).b = true
  | .leaf i, h, j, hj => by obtain rfl := List.mem_singleton.1 hj; exact h
  | .node i l r, h, j, hj => by
    rcases List.mem_append.1 hj with hj | hj
    · exact Fit.leafs h.2.2.1 j hj
    · exact Fit.leafs h.2.2.2 j hj
theorem Shape.frame {m m' : M} {t : Int} {al lv : List Int} (h : Shape m t al lv) (he : ∀ i ∈ al, m' i = m i) : Shape m' t al lv := by
  rcases h with h | ⟨s, h1, h2, h3, h4, h5, h6⟩
  · exact .inl h
  · exact .inr ⟨s, Rep.frame (fun i hi => he i (h5.mem_iff.1 hi)) h1, Fit.keep h2 (fun i hi => he i (h5.mem_iff.1 hi)), h3, h4, h5, h6⟩
/-- A leaf has another bound, one that its fat bound holds. -/
theorem Shape.setB {m : M} {t a : Int} {al lv : List Int} {b : Bd} (h : Shape m t al lv) (ha : holds (m a).fat b = true) : Shape (st m a { m a with b := b }) t al lv := by
  rcases h with h | ⟨s, h1, h2, h3, h4, h5, h6⟩
  · exact .inl h
  · have e : ∀ i, ((st m a { m a with b := b }) i).u = (m i).u ∧ ((st m a { m a with b := b }) i).n = (m i).n ∧ ((st m a { m a with b := b }) i).l = (m i).l ∧ ((st m a { m a with b := b }) i).r = (m i).r ∧ ((st m a { m a with b := b }) i).fat = (m i).fat ∧ ((st m a { m a with b := b }) i).h = (m i).h := fun i => by
      by_cases q : i = a
      · subst q; rw [st_at]; exact ⟨rfl, rfl, rfl, rfl, rfl, rfl⟩
      · rw [st_ne q]; exact ⟨rfl, rfl, rfl, rfl, rfl, rfl⟩
    refine .inr ⟨s, Rep.frame4 (fun i _ => ⟨(e i).1, (e i).2.1, (e i).2.2.1, (e i).2.2.2.1⟩) h1, Fit.frameL (fun i _ => ⟨(e i).2.2.2.2.1, (e i).2.2.2.2.2⟩) (fun i hi => ?_) h2, h3, h4, h5, h6⟩
    by_cases q : i = a
    · subst q; rw [st_at]; exact ha
    · rw [st_ne q]; exact (Fit.leafs h2 i hi).2
theorem Shape.leafs {m : M} {t : Int} {al lv : List Int} (h : Shape m t al lv) : ∀ i ∈ lv, i ∈ al ∧ 1 ≤ (m i).n ∧ (m i).h = 0 ∧ holds (m i).fat (m i).b = true := fun i hi => by
  rcases h with ⟨_, _, rfl⟩ | ⟨s, h1, h2, h3, h4, h5, h6⟩
  · cases hi
  · have hs := h6.mem_iff.2 hi
    exact ⟨h5.mem_iff.1 (s.lv_all i hs), rep_n h1 i hs, Fit.leafs h2 i hs⟩
def ent (m : M) (i : Int) : En := ⟨(m i).n, (m i).b, (m i).fat⟩
/-- A tree in memory, its entries. -/
structure TI0 (w : World) (p : Nat) (mg : Int) (L : List En) (K : Nat) (T : Tn) (F al lv : List Int) (b c : Nat) (pl : Int → Option Int) : Prop where
  ts : TS w T F al lv b c pl K
  p_ : T.p = p
  mg_ : T.mg = mg
  mg0 : 0 ≤ mg ∧ mg ≤ 1048576
  perm : (lv.map (ent T.m)).Perm L
  rise : Rise L
  pls : ∀ n i, pl n = some i ↔ i ∈ lv ∧ (T.m i).n = n
  rng : ∀ e ∈ L, 1 ≤ e.n ∧ e.n ≤ 4096
  cK : c ≤ K
def TI (w : World) (p : Nat) (mg : Int) (L : List En) (S : Nat → Prop) (K : Nat) : Prop := ∃ T F al lv b c pl, TI0 w p mg L K T F al lv b c pl ∧ S = own T b
section
variable {w : World} {p K : Nat} {mg : Int} {L : List En} {T : Tn} {F al lv : List Int} {b c : Nat} {pl : Int → Option Int}
theorem TI0.frame {w' : World} (h : TI0 w p mg L K T F al lv b c pl) (hf : ∀ k, own T b k → w'.heap[k]? = w.heap[k]?) : TI0 w' p mg L K T F al lv b c pl :=
  ⟨⟨h.ts.tx.frame hf, h.ts.sh, h.ts.nd, h.ts.rng, h.ts.n1, h.ts.n2, h.ts.n3⟩, h.p_, h.mg_, h.mg0, h.perm, h.rise, h.pls, h.rng, h.cK⟩
theorem TI0.step {w' : World} (h : TI0 w p mg L K T F al lv b c pl) (hS : Below w.heap.size w w') : TI0 w' p mg L K T F al lv b c pl := h.frame fun k hk => hS.block k (h.ts.tx.lt k hk)
theorem TI0.mono {K' : Nat} (h : TI0 w p mg L K T F al lv b c pl) (hK : K ≤ K') : TI0 w p mg L K' T F al lv b c pl :=
  ⟨⟨h.ts.tx, h.ts.sh, h.ts.nd, h.ts.rng, by have := h.ts.n1; omega, by have := h.ts.n2; omega, by have := h.ts.n3; omega⟩, h.p_, h.mg_, h.mg0, h.perm, h.rise, h.pls, h.rng, by have := h.cK; omega⟩
/-- A number is there, if and only if the map leads to its leaf. -/
theorem TI0.look_in (h : TI0 w p mg L K T F al lv b c pl) {n : Int} (hn : isIn L n = true) : ∃ a : Nat, pl n = some (a : Int) ∧ (a : Int) ∈ lv ∧ (T.m a).n = n ∧ a < T.N ∧ get L n = some (ent T.m a) := by
  obtain ⟨e, he, hen⟩ := isIn_iff.1 hn
  obtain ⟨i, hi, hie⟩ := List.mem_map.1 (h.perm.mem_iff.2 he)
  have hni : (T.m i).n = n := by rw [← hen, ← hie]; rfl
  have hr := h.ts.rng i (List.mem_append_left _ (Shape.leafs h.ts.sh i hi).1)
  obtain ⟨a, rfl⟩ : ∃ a : Nat, i = a := ⟨i.toNat, by omega⟩
  exact ⟨a, (h.pls n a).2 ⟨hi, hni⟩, hi, hni, by omega, by rw [hie]; exact get_of h.rise he hen⟩
theorem TI0.look_out (h : TI0 w p mg L K T F al lv b c pl) {n : Int} (hn : isIn L n = false) : pl n = none := by
  cases hp : pl n with
  | none => rfl
  | some i =>
    obtain ⟨hi, hni⟩ := (h.pls n i).1 hp
    have := h.perm.mem_iff.1 (List.mem_map.2 ⟨i, hi, rfl⟩)
    exact absurd hni (not_in.1 hn _ this)
theorem TI0.mem (h : TI0 w p mg L K T F al lv b c pl) {i : Int} (hi : i ∈ lv) : ent T.m i ∈ L := h.perm.mem_iff.1 (List.mem_map.2 ⟨i, hi, rfl⟩)
theorem TI0.ok (h : TI0 w p mg L K T F al lv b c pl) {e : En} (he : e ∈ L) : e.b.ok ∧ e.fat.ok ∧ holds e.fat e.b = true := by
  obtain ⟨i, hi, rfl⟩ := List.mem_map.1 (h.perm.mem_iff.2 he)
  have := (Shape.leafs h.ts.sh i hi).2.2.2
  exact ⟨(holds_iff.1 this).2.1, (holds_iff.1 this).1, this⟩
theorem TI0.lt (h : TI0 w p mg L K T F al lv b c pl) : p < w.heap.size := by have := h.ts.tx.pLt; rw [h.p_] at this; exact this
end
theorem TI.step {w w' : World} {p K : Nat} {mg : Int} {L : List En} {S : Nat → Prop} (h : TI w p mg L S K) (hS : Below w.heap.size w w') : TI w' p mg L S K := by
  obtain ⟨T, F, al, lv, b, c, pl, h, rfl⟩ := h
  exact ⟨T, F, al, lv, b, c, pl, h.step hS, rfl⟩
theorem TI.over {w w' : World} {p K : Nat} {mg : Int} {L : List En} {S S' : Nat → Prop} (h : TI w p mg L S K) (hf : Fr w w' S') (hd : ∀ k, S k → ¬ S' k) : TI w' p mg L S K := by
  obtain ⟨T, F, al, lv, b, c, pl, h, rfl⟩ := h
  exact ⟨T, F, al, lv, b, c, pl, h.frame fun k hk => hf.block k (h.ts.tx.lt k hk) (hd k hk), rfl⟩
theorem TI.mono {w : World} {p K K' : Nat} {mg : Int} {L : List En} {S : Nat → Prop} (h : TI w p mg L S K) (hK : K ≤ K') : TI w p mg L S K' := by
  obtain ⟨T, F, al, lv, b, c, pl, h, rfl⟩ := h
  exact ⟨T, F, al, lv, b, c, pl, h.mono hK, rfl⟩
theorem TI.lt {w : World} {p K : Nat} {mg : Int} {L : List En} {S : Nat → Prop} (h : TI w p mg L S K) : ∀ k, S k → k < w.heap.size := by
  obtain ⟨T, F, al, lv, b, c, pl, h, rfl⟩ := h
  exact h.ts.tx.lt
theorem TI.rise {w : World} {p K : Nat} {mg : Int} {L : List En} {S : Nat → Prop} (h : TI w p mg L S K) : Rise L := by
  obtain ⟨T, F, al, lv, b, c, pl, h, rfl⟩ := h
  exact h.rise
theorem TI.mg0 {w : World} {p K : Nat} {mg : Int} {L : List En} {S : Nat → Prop} (h : TI w p mg L S K) : 0 ≤ mg ∧ mg ≤ 1048576 := by
  obtain ⟨T, F, al, lv, b, c, pl, h, rfl⟩ := h
  exact h.mg0
theorem TI.ok {w : World} {p K : Nat} {mg : Int} {L : List En} {S : Nat → Prop} (h : TI w p mg L S K) : ∀ e ∈ L, (1 ≤ e.n ∧ e.n ≤ 4096) ∧ e.b.ok ∧ e.fat.ok ∧ holds e.fat e.b = true := by
  obtain ⟨T, F, al, lv, b, c, pl, h, rfl⟩ := h
  exact fun e he => ⟨h.rng e he, h.ok he⟩
/-- What a call of a tree leaves. -/
structure Aft2 (w w' : World) (S S' : Nat → Prop) : Prop where
  fr : Fr w w' S
  ow : ∀ k, S' k → S k ∨ w.heap.size ≤ k
theorem Aft2.of_below {w w' : World} {S : Nat → Prop} (h : Below w.heap.size w w') : Aft2 w w' S S := ⟨Fr.of_below h, fun _ hk => .inl hk⟩
theorem Aft2.trans {w1 w2 w3 : World} {S S' S'' : Nat → Prop} (h : Aft2 w1 w2 S S') (k : Aft2 w2 w3 S' S'') : Aft2 w1 w3 S S'' :=
  ⟨h.fr.trans k.fr h.ow, fun j hj => (k.ow j hj).elim (h.ow j) fun hh => by right; have := h.fr.size; omega⟩
/-- What stands against a number and a bound. -/
def askS (n : Int) (x : Bd) : Int := if 1 ≤ n ∧ n ≤ 4096 then errIf x.ok else 2
end TrI
end Go.Proofs.YtbcjnckejkjfeaaGreat
namespace Go.Proofs.YtbcjnckejkjfeaaGreat
set_option linter.unusedVariables false
set_option linter.unusedSimpArgs false
open Go.RowKit Go.NP
namespace TAs
open TrP TrW TrI
theorem bcheckV (x : Bd) (w : World) : RetB Tryz.prog 53 #[.agg #[.int .i64 x.lo.x, .int .i64 x.lo.y, .int .i64 x.lo.z, .int .i64 x.hi.x, .int .i64 x.hi.y, .int .i64 x.hi.z]] w (.int .i64 (errIf x.ok)) := by
  by_cases h : x.ok
  · rw [errIf_pos h]; exact bcheck_ok x w h
  · rw [errIf_neg h]; exact bcheck_no x w h
set_option maxRecDepth 100000 in
set_option maxHeartbeats 2000000 in
theorem askedC {p : Nat} {n : Int} {x : Bd} (w : World) (hm : w.cell? ⟨p, 0, none⟩ = some (.bool true)) (hp : p < w.heap.size) : RetB Tryz.prog 32 #[.pointer (some ⟨p, 0, none⟩), .int .i64 n, .agg #[.int .i64 x.lo.x, .int .i64 x.lo.y, .int .i64 x.lo.z, .int .i64 x.hi.x, .int .i64 x.hi.y, .int .i64 x.hi.z]] w (.int .i64 (askS n x)) := by
  have hz : p < w.heap.size + 1 := by omega
  have hb : Below w.heap.size w (w.alloc (.cells #[.int .i64 x.lo.x, .int .i64 x.lo.y, .int .i64 x.lo.z, .int .i64 x.hi.x, .int .i64 x.hi.y, .int .i64 x.hi.z] 38)) := (Below.refl _ _).alloc (Nat.le_refl _) _
  by_cases h1 : n < 1
  · have e : askS n x = 2 := by unfold askS; rw [if_neg (by omega)]
    have t1 : decide (n < 1) = true := decide_eq_true h1
    rw [e]
    unfold RetB
    go_enter Tryz.func32, Tryz.ntmps32
    go_wp2_with fail
    exact bodyPost_ret (v := .int .i64 2) (by simp [results, Tryz.results32, go_sem, *]) rfl ⟨rfl, hb⟩
  · by_cases h2 : 4096 < n
    · have e : askS n x = 2 := by unfold askS; rw [if_neg (by omega)]
      have t1 : decide (n < 1) = false := decide_eq_false h1
      have t2 : decide (4096 < n) = true := decide_eq_true h2
      rw [e]
      unfold RetB
      go_enter Tryz.func32, Tryz.ntmps32
      go_wp2_with fail
      exact bodyPost_ret (v := .int .i64 2) (by simp [results, Tryz.results32, go_sem, *]) rfl ⟨rfl, hb⟩
    · have e : askS n x = errIf x.ok := by unfold askS; rw [if_pos (by omega)]
      have t1 : decide (n < 1) = false := decide_eq_false h1
      have t2 : decide (4096 < n) = false := decide_eq_false h2
      rw [e]
      unfold RetB
      go_enter Tryz.func32, Tryz.ntmps32
      go_wp2_with fail
      refine (bcheckV x _).mono ?_
      rintro e w1 ⟨rfl, hS⟩
      go_wp2_with fail
      exact bodyPost_ret (v := .int .i64 (errIf x.ok)) (by simp [results, Tryz.results32, go_sem, *]) rfl ⟨rfl, hb.trans (hS.mono hb.size)⟩
set_option maxRecDepth 100000 in
set_option maxHeartbeats 2000000 in
theorem askedNil {n : Int} {x : Bd} (w : World) : RetB Tryz.prog 32 #[.pointer none, .int .i64 n, .agg #[.int .i64 x.lo.x, .int .i64 x.lo.y, .int .i64 x.lo.z, .int .i64 x.hi.x, .int .i64 x.hi.y, .int .i64 x.hi.z]] w (.int .i64 1) := by
  have hb : Below w.heap.size w (w.alloc (.cells #[.int .i64 x.lo.x, .int .i64 x.lo.y, .int .i64 x.lo.z, .int .i64 x.hi.x, .int .i64 x.hi.y, .int .i64 x.hi.z] 38)) := (Below.refl _ _).alloc (Nat.le_refl _) _
  unfold RetB
  go_enter Tryz.func32, Tryz.ntmps32
  go_wp2_with fail
  exact bodyPost_ret (v := .int .i64 1) (by simp [results, Tryz.results32, go_sem, *]) rfl ⟨rfl, hb⟩
set_option maxRecDepth 100000 in
set_option maxHeartbeats 2000000 in
theorem askedUn {p : Nat} {n : Int} {x : Bd} (w : World) (hm : w.cell? ⟨p, 0, none⟩ = some (.bool false)) (hp : p < w.heap.size) : RetB Tryz.prog 32 #[.pointer (some ⟨p, 0, none⟩), .int .i64 n, .agg #[.int .i64 x.lo.x, .int .i64 x.lo.y, .int .i64 x.lo.z, .int .i64 x.hi.x, .int .i64 x.hi.y, .int .i64 x.hi.z]] w (.int .i64 1) := by
  have hz : p < w.heap.size + 1 := by omega
  have hb : Below w.heap.size w (w.alloc (.cells #[.int .i64 x.lo.x, .int .i64 x.lo.y, .int .i64 x.lo.z, .int .i64 x.hi.x, .int .i64 x.hi.y, .int .i64 x.hi.z] 38)) := (Below.refl _ _).alloc (Nat.le_refl _) _
  unfold RetB
  go_enter Tryz.func32, Tryz.ntmps32
  go_wp2_with fail
  exact bodyPost_ret (v := .int .i64 1) (by simp [results, Tryz.results32, go_sem, *]) rfl ⟨rfl, hb⟩
end TAs
end Go.Proofs.YtbcjnckejkjfeaaGreat
namespace Go.Proofs.YtbcjnckejkjfeaaGreat
set_option linter.unusedVariables false
set_option linter.unusedSimpArgs false
open Go.RowKit Go.NP
namespace TPu
open TrP TrW TrC TrA TrF TrG TrX TrY TrK THg TCt QVl QVm TMp TrE TrI TAs
theorem cf34 (args : Array Value) (w1 : World) : (callFunc 34 args).run Tryz.prog w1 = .ok (.enter 34 args) w1 := enters Tryz.func34 (by kernel_rfl) (by kernel_rfl) args w1
theorem zI (w : World) : (zeroValue 3).run Tryz.prog w = .ok (.int .i64 0) w := by kernel_rfl
theorem wf_rng {n : Int} (h : 1 ≤ n ∧ n ≤ 4096) : wfI n := wfI_small (by omega) (by omega)
def updI (f : Int → Option Int) (n v : Int) : Int → Option Int := fun k => if k = n then some v else f k
theorem im_upd (f : Int → Option Int) (n v : Int) : updV (im f) n (.int .i64 v) = im (updI f n v) := by
  funext k; unfold updV im updI; split <;> rfl
theorem im_some (f : Int → Option Int) (n : Int) : (im f n).isSome = (f n).isSome := by unfold im; cases f n <;> rfl
theorem im_at {f : Int → Option Int} {n k : Int} (h : f n = some k) : (im f n).getD (.int .i64 0) = .int .i64 k := by unfold im; rw [h]; rfl
theorem im_no {f : Int → Option Int} {n : Int} (h : f n = none) : (im f n).getD (.int .i64 0) = .int .i64 0 := by unfold im; rw [h]; rfl
/-- What Put answers, and does. -/
def putE (L : List En) (n : Int) (x : Bd) : Int := if 1 ≤ n ∧ n ≤ 4096 then (if x.ok then (if isIn L n then 5 else 0) else 7) else 2
def putL (mg : Int) (L : List En) (n : Int) (x : Bd) : List En := if putE L n x = 0 then ins L ⟨n, x, grow x mg⟩ else L
theorem putE_ask {L : List En} {n : Int} {x : Bd} (h : askS n x ≠ 0) : putE L n x = askS n x := by
  unfold putE askS errIf at *
  split
  · rename_i h1; rw [if_pos h1] at h
    split
    · rename_i h2; rw [if_pos h2] at h; exact absurd rfl h
    · rfl
  · rfl
theorem askS_zero {n : Int} {x : Bd} (h : askS n x = 0) : (1 ≤ n ∧ n ≤ 4096) ∧ x.ok := by
  unfold askS errIf at h
  split at h
  · rename_i h1
    split at h
    · rename_i h2; exact ⟨h1, h2⟩
    · omega
  · omega
theorem mapK {w w' : World} {T : Tn} {F : List Int} {b c c' : Nat} {pl pl' : Int → Option Int} (h : TX w T F b c pl) (hv : VM w' b (im pl') c') (hm : w.mapTurned w' b) : TX w' T F b c' pl' := by
  have hb : ∀ k, k ≠ b → w'.heap[k]? = w.heap[k]? := fun k hk => Turned.block hm hk
  exact ⟨h.to.frame (hb _ fun e => h.bp e.symm) (hb _ fun e => h.bg e.symm), h.fr.block fun g hg _ => hb g (h.fp g hg).2.2, h.mp, hv, h.bp, h.bg, h.fp, h.cl⟩
set_option maxRecDepth 100000 in
set_option maxHeartbeats 4000000 in
theorem putErr {p : Nat} {n : Int} {x : Bd} (w : World) (hm : w.cell? ⟨p, 0, none⟩ = some (.bool true)) (hp : p < w.heap.size) (he : askS n x ≠ 0) : RetB Tryz.prog 14 #[.pointer (some ⟨p, 0, none⟩), .int .i64 n, .agg #[.int .i64 x.lo.x, .int .i64 x.lo.y, .int .i64 x.lo.z, .int .i64 x.hi.x, .int .i64 x.hi.y, .int .i64 x.hi.z]] w (.int .i64 (askS n x)) := by
  have hb : Below w.heap.size w (w.alloc (.cells #[.int .i64 x.lo.x, .int .i64 x.lo.y, .int .i64 x.lo.z, .int .i64 x.hi.x, .int .i64 x.hi.y, .int .i64 x.hi.z] 38)) := (Below.refl _ _).alloc (Nat.le_refl _) _
  have hm2 : (w.alloc (.cells #[.int .i64 x.lo.x, .int .i64 x.lo.y, .int .i64 x.lo.z, .int .i64 x.hi.x, .int .i64 x.hi.y, .int .i64 x.hi.z] 38)).cell? ⟨p, 0, none⟩ = some (.bool true) := by rw [(bcell hb).1 p 0 hp]; exact hm
  have hp2 : p < (w.alloc (.cells #[.int .i64 x.lo.x, .int .i64 x.lo.y, .int .i64 x.lo.z, .int .i64 x.hi.x, .int .i64 x.hi.y, .int .i64 x.hi.z] 38)).heap.size := by have := hb.size; omega
  have AS := Lib.hid (askedC (n := n) (x := x) _ hm2 hp2)
  obtain ⟨e, hee⟩ : ∃ e, askS n x = e := ⟨_, rfl⟩
  rw [hee] at he
  rw [hee] at AS ⊢
  have t1 : (e != 0) = true := by simpa using he
  unfold RetB
  go_enter Tryz.func14, Tryz.ntmps14
  go_wp2_with fail
  refine AS.out.mono ?_
  rintro e1 w1 ⟨rfl, hS⟩
  go_wp2_with fail
  exact bodyPost_ret (v := .int .i64 e) (by simp [results, Tryz.results14, go_sem, *]) rfl ⟨rfl, hb.trans (hS.mono hb.size)⟩
set_option maxRecDepth 100000 in
set_option maxHeartbeats 4000000 in
theorem putIn {p b c : Nat} {n : Int} {x : Bd} {pl : Int → Option Int} {a : Int} (w : World) (hm : w.cell? ⟨p, 0, none⟩ = some (.bool true)) (hp : p < w.heap.size) (h5 : w.cell? ⟨p, 5, none⟩ = some (.map (some b))) (hv : VM w b (im pl) c) (he : askS n x = 0) (hn : pl n = some a) : RetB Tryz.prog 14 #[.pointer (some ⟨p, 0, none⟩), .int .i64 n, .agg #[.int .i64 x.lo.x, .int .i64 x.lo.y, .int .i64 x.lo.z, .int .i64 x.hi.x, .int .i64 x.hi.y, .int .i64 x.hi.z]] w (.int .i64 5) := by
  have hb : Below w.heap.size w (w.alloc (.cells #[.int .i64 x.lo.x, .int .i64 x.lo.y, .int .i64 x.lo.z, .int .i64 x.hi.x, .int .i64 x.hi.y, .int .i64 x.hi.z] 38)) := (Below.refl _ _).alloc (Nat.le_refl _) _
  have hm2 : (w.alloc (.cells #[.int .i64 x.lo.x, .int .i64 x.lo.y, .int .i64 x.lo.z, .int .i64 x.hi.x, .int .i64 x.hi.y, .int .i64 x.hi.z] 38)).cell? ⟨p, 0, none⟩ = some (.bool true) := by rw [(bcell hb).1 p 0 hp]; exact hm
  have hp2 : p < (w.alloc (.cells #[.int .i64 x.lo.x, .int .i64 x.lo.y, .int .i64 x.lo.z, .int .i64 x.hi.x, .int .i64 x.hi.y, .int .i64 x.hi.z] 38)).heap.size := by have := hb.size; omega
  have AS := Lib.hid (askedC (n := n) (x := x) _ hm2 hp2)
  rw [he] at AS
  have wf := wf_rng (askS_zero he).1
  unfold RetB
  go_enter Tryz.func14, Tryz.ntmps14
  go_wp2_with fail
  refine AS.out.mono ?_
  rintro e1 w1 ⟨rfl, hS⟩
  have hW := hb.trans (hS.mono hb.size)
  have c5 : w1.cell? ⟨p, 5, none⟩ = some (.map (some b)) := by rw [(bcell hW).1 p 5 hp]; exact h5
  have hv1 := hv.step hW
  have l1 := hv1.look_ok wf Tryz.underlying57 (zI w1)
  rw [im_some, im_at hn, hn] at l1
  simp only [Option.isSome_some] at l1
  have HW := Lib.hid hW
  clear hm h5 hv hS hb hm2 hp2 hW hv1
  have hp1 : p < w1.heap.size := by have := HW.out.size; omega
  go_wp2_with fail
  exact bodyPost_ret (v := .int .i64 5) (by simp [results, Tryz.results14, go_sem, *]) rfl ⟨rfl, HW.out⟩
set_option maxRecDepth 100000 in
set_option maxHeartbeats 4000000 in
theorem putNew {p K b c : Nat} {mg n : Int} {x : Bd} {L : List En} {T : Tn} {F al lv : List Int} {pl : Int → Option Int} (w : World) (h : TI0 w p mg L K T F al lv b c pl) (hK : K < 80000) (he : askS n x = 0) (hn : isIn L n = false) :
    Calls Tryz.prog 14 #[.pointer (some ⟨p, 0, none⟩), .int .i64 n, .agg #[.int .i64 x.lo.x, .int .i64 x.lo.y, .int .i64 x.lo.z, .int .i64 x.hi.x, .int .i64 x.hi.y, .int .i64 x.hi.z]] w fun e w' => e = .returned (.int .i64 0) ∧ ∃ S', TI w' p mg (ins L ⟨n, x, grow x mg⟩) S' (K + 4) ∧ Aft2 w w' (own T b) S' := by
  have hp := h.lt
  have hb : Below w.heap.size w (w.alloc (.cells #[.int .i64 x.lo.x, .int .i64 x.lo.y, .int .i64 x.lo.z, .int .i64 x.hi.x, .int .i64 x.hi.y, .int .i64 x.hi.z] 38)) := (Below.refl _ _).alloc (Nat.le_refl _) _
  have h1 := h.step hb
  have hm2 : (w.alloc (.cells #[.int .i64 x.lo.x, .int .i64 x.lo.y, .int .i64 x.lo.z, .int .i64 x.hi.x, .int .i64 x.hi.y, .int .i64 x.hi.z] 38)).cell? ⟨p, 0, none⟩ = some (.bool true) := by have := TO.madec h1.ts.tx.to; rw [h.p_] at this; exact this
  have hp2 := h1.lt
  have AS := Lib.hid (askedC (n := n) (x := x) _ hm2 hp2)
  rw [he] at AS
  have nr := askS_zero he
  have wf := wf_rng nr.1
  have hpl := h.look_out hn
  have hbx : Box (w.alloc (.cells #[.int .i64 x.lo.x, .int .i64 x.lo.y, .int .i64 x.lo.z, .int .i64 x.hi.x, .int .i64 x.hi.y, .int .i64 x.hi.z] 38)) w.heap.size [.int .i64 x.lo.x, .int .i64 x.lo.y, .int .i64 x.lo.z, .int .i64 x.hi.x, .int .i64 x.hi.y, .int .i64 x.hi.z] 38 := Box.new rfl
  have H0 := Lib.hid h
  clear h
  go_enter Tryz.func14, Tryz.ntmps14
  go_wp2_with fail
  refine AS.out.mono ?_
  rintro e1 w1 ⟨rfl, hS⟩
  have hW := hb.trans (hS.mono hb.size)
  obtain ⟨gx, hgx⟩ : ∃ g, w.heap.size = g := ⟨_, rfl⟩
  have hx1 := hbx.step hS
  have h2 := h1.step hS
  rw [hgx] at hx1
  rw [hgx]
  have c5 : w1.cell? ⟨p, 5, none⟩ = some (.map (some b)) := by have := TO.mpc h2.ts.tx.to; rw [h2.p_, h2.ts.tx.mp] at this; exact this
  have c1 : w1.cell? ⟨p, 1, none⟩ = some (.int .i64 mg) := by have := TO.mgc h2.ts.tx.to; rw [h2.p_, h2.mg_] at this; exact this
  have l1 := h2.ts.tx.vm.look_ok wf Tryz.underlying57 (zI w1)
  rw [im_some, im_no hpl, hpl] at l1
  simp only [Option.isSome_none] at l1
  have HW := Lib.hid hW; have H2 := Lib.hid h2; have HX := Lib.hid hx1
  have hp1 := h2.lt
  have lx := hx1.lt
  clear hm2 hb hp2 hW h1 h2 hbx hx1 hS AS
  go_wp2_with fail
  refine wp_region_ph [(10, .free [])] (by kernel_rfl) (by kernel_rfl) ?_
  refine Ph.belowd ?_
  simp only [List.drop_succ_cons, List.drop_zero, List.take_succ_cons, List.take_zero, Nat.reduceSub, Nat.sub_zero]
  iterate 1 (refine SeqO.val (v := ?_) (by rfl) (by rfl) (fun w1 hS => ?_) ?_; rotate_left; (· obtain ⟨hc, hcf⟩ := bcell hS; go_simp; try with_reducible rfl); simp only [Act.put, List.setIfInBounds_toArray, List.set_cons_zero, List.set_cons_succ])
  refine SeqO.row (l := [.int .i64 x.lo.x, .int .i64 x.lo.y, .int .i64 x.lo.z, .int .i64 x.hi.x, .int .i64 x.hi.y, .int .i64 x.hi.z]) (by rfl) (by rfl) HX.out Tryz.underlying38 (by rfl) (by kernel_rfl) (by rfl) (by rfl) ?_
  simp only [Act.put, List.setIfInBounds_toArray, List.set_cons_zero, List.set_cons_succ]
  iterate 4 (refine SeqO.val (v := ?_) (by rfl) (by rfl) (fun w1 hS => ?_) ?_; rotate_left; (· obtain ⟨hc, hcf⟩ := bcell hS; go_simp; try with_reducible rfl); simp only [Act.put, List.setIfInBounds_toArray, List.set_cons_zero, List.set_cons_succ])
  refine SeqO.callv (by rfl) (by rfl) (by rfl) cf34 (by simp [Act.eval]) (fun w1 hS => growC x mg w1) ?_
  simp only [Act.put, List.setIfInBounds_toArray, List.set_cons_zero, List.set_cons_succ]
  refine SeqO.row (l := [.int .i64 x.lo.x, .int .i64 x.lo.y, .int .i64 x.lo.z, .int .i64 x.hi.x, .int .i64 x.hi.y, .int .i64 x.hi.z]) (by rfl) (by rfl) HX.out Tryz.underlying38 (by rfl) (by kernel_rfl) (by rfl) (by rfl) ?_
  simp only [Act.put, List.setIfInBounds_toArray, List.set_cons_zero, List.set_cons_succ]
  iterate 2 (refine SeqO.val (v := ?_) (by rfl) (by rfl) (fun w1 hS => ?_) ?_; rotate_left; (· obtain ⟨hc, hcf⟩ := bcell hS; go_simp; try with_reducible rfl); simp only [Act.put, List.setIfInBounds_toArray, List.set_cons_zero, List.set_cons_succ])
  refine SeqO.nil0 fun w2 hS2 => ?_
  refine Ph.last ?_
  simp only [List.drop_succ_cons, List.drop_zero, List.take_succ_cons, List.take_zero, Nat.reduceSub, Nat.sub_zero]
  obtain ⟨nd, hnd⟩ : ∃ z : Nd, (⟨grow x mg, x, n, -1, -1, -1, 0⟩ : Nd) = z := ⟨_, rfl⟩
  have H3 := Lib.hid (H2.out.step hS2)
  have HW2 := Lib.hid (HW.out.trans (hS2.mono HW.out.size))
  clear c5 c1 l1 hp1 lx H2 HX HW hS2
  go_wp2_with fail
  have hFS := freshC (x := nd) w2 H3.out.ts.tx (fun k hk => H3.out.ts.rng k (List.mem_append_right _ hk)) (by have := H3.out.ts.n2; omega) (fun _ => by have := H3.out.ts.n1; omega)
  rw [← hnd, H3.out.p_] at hFS
  refine hFS.mono ?_
  clear hFS
  rw [hnd]
  rintro e w3 ⟨a, T3, F3, rfl, hF⟩
  have hpT : T3.p = p := hF.p.trans H3.out.p_
  have c5 : w3.cell? ⟨p, 5, none⟩ = some (.map (some b)) := by have := TO.mpc hF.tx.to; rw [hpT, hF.tx.mp] at this; exact this
  have hp1 : p < w3.heap.size := by have := hF.tx.pLt; rw [hpT] at this; exact this
  have hvm := hF.tx.vm
  have hcm : c < maxLen := by have := H3.out.cK; unfold maxLen; omega
  have HF := Lib.hid hF
  clear hF
  go_wp2_with (refine wpL_put (x := .tmp 43) (y := .tmp 44) (mo := .tmp 42) (v := .int .i64 (a : Int)) (by rfl) (by rfl) (by rfl) (by rfl) (by rfl) hvm wf hcm Tryz.underlying57 ?_; intro w4 hv4 ht4; have HV4 := Lib.hid hv4; have HT4 := Lib.hid ht4; clear hv4 ht4 c5 hp1)
  have hF := HF.out
  have h0 := H3.out
  have fo := fresh_out h0.ts.nd h0.ts.rng hF.how
  have hal : ∀ i ∈ al, i ≠ (a : Int) := fun i hi e => fo.1 (e ▸ hi)
  have hlal : ∀ i ∈ lv, i ∈ al := fun i hi => (Shape.leafs h0.ts.sh i hi).1
  have hX4 : TX w4 T3 F3 b (c + 1) (updI pl n a) := by
    refine mapK hF.tx ?_ HT4.out
    have := HV4.out
    rw [im_upd, im_some, hpl] at this
    exact this
  have hFF : ∀ i ∈ F3, i ∈ F := fun i hi => by
    rcases hF.how with q | q
    · rw [q.1]; exact List.mem_append_left _ hi
    · rw [q.2.1] at hi; cases hi
  obtain ⟨n1, n2, n3⟩ := List.nodup_append.1 h0.ts.nd
  have hF3 : F3.Nodup ∧ (a : Int) ∉ F3 := by
    rcases hF.how with q | q
    · rw [q.1] at n2
      obtain ⟨m1, m2, m3⟩ := List.nodup_append.1 n2
      exact ⟨m1, fun hm => m3 _ hm _ (List.mem_singleton.2 rfl) rfl⟩
    · rw [q.2.1]; exact ⟨List.nodup_nil, fun hm => by cases hm⟩
  have hTS : TS w4 T3 F3 al lv b (c + 1) (updI pl n a) (K + 2) := by
    refine ⟨hX4, ?_, List.nodup_append.2 ⟨n1, hF3.1, fun i hi j hj => n3 i hi j (hFF j hj)⟩, fun i hi => ?_, ?_, ?_, ?_⟩
    · rw [hF.m, hF.top]
      exact Shape.frame h0.ts.sh fun i hi => st_ne (hal i hi)
    · have : i ∈ al ++ F := by
        rcases List.mem_append.1 hi with hi | hi
        · exact List.mem_append_left _ hi
        · exact List.mem_append_right _ (hFF i hi)
      have := h0.ts.rng i this
      omega
    · have := h0.ts.n1; omega
    · have := h0.ts.n2
      rcases hF.how with q | q
      · rw [q.1, List.length_append] at this; omega
      · rw [q.2.1]; exact Nat.zero_le _
    · have := h0.ts.n3; omega
  have hma : T3.m a = nd := by rw [hF.m, st_at]
  have hmo : ∀ i ∈ lv, T3.m i = T.m i := fun i hi => by rw [hF.m, st_ne (hal i (hlal i hi))]
  have hleaf : (T3.m a).u = -1 ∧ 1 ≤ (T3.m a).n ∧ (T3.m a).h = 0 ∧ holds (T3.m a).fat (T3.m a).b = true := by
    rw [hma, ← hnd]
    exact ⟨rfl, nr.1.1, rfl, holds_grow nr.2 mg⟩
  have hHG := hangC (T := T3) w4 hTS (by omega) hF.lt hF3.2 fo.1 hleaf
  rw [hF.p, h0.p_] at hHG
  refine hHG.mono ?_
  clear hHG
  rintro e w5 ⟨rfl, T5, F5, al5, hT5, hA5⟩
  have FIN := Lib.hid (show ∃ S', TI w5 p mg (ins L ⟨n, x, grow x mg⟩) S' (K + 4) ∧ Aft2 w w5 (own T b) S' from by
    have he : ∀ i ∈ (a : Int) :: lv, ent T5.m i = ent T3.m i := fun i hi => by
      obtain ⟨q1, q2, q3⟩ := hA5.ent i hi
      unfold ent; rw [q1, q2, q3]
    have hea : ent T3.m a = ⟨n, x, grow x mg⟩ := by unfold ent; rw [hma, ← hnd]
    have heo : ∀ i ∈ lv, ent T3.m i = ent T.m i := fun i hi => by unfold ent; rw [hmo i hi]
    refine ⟨own T5 b, ⟨T5, F5, al5, (a : Int) :: lv, b, c + 1, updI pl n a, ⟨hT5, hA5.p.trans (hF.p.trans h0.p_), hA5.mg.trans (hF.mg.trans h0.mg_), h0.mg0, ?_, ins_rise h0.rise hn, fun k i => ?_, fun e he => ?_, ?_⟩, rfl⟩, ?_⟩
    · rw [List.map_congr_left he, List.map_cons, hea, List.map_congr_left heo]
      exact (List.Perm.cons _ h0.perm).trans (ins_perm _ _).symm
    · have hn5 : ∀ i ∈ (a : Int) :: lv, (T5.m i).n = (T3.m i).n := fun i hi => (hA5.ent i hi).1
      have hna : (T3.m a).n = n := by rw [hma, ← hnd]
      unfold updI
      by_cases ek : k = n
      · subst ek
        rw [if_pos rfl]
        constructor
        · intro q
          injection q with q
          subst q
          exact ⟨List.mem_cons_self .., by rw [hn5 _ (List.mem_cons_self ..), hna]⟩
        · rintro ⟨hi, hk⟩
          rcases List.mem_cons.1 hi with q | hi
          · rw [q]
          · rw [hn5 _ (List.mem_cons_of_mem _ hi), hmo i hi] at hk
            have := (h0.pls k i).2 ⟨hi, hk⟩
            rw [hpl] at this; cases this
      · rw [if_neg ek, h0.pls k i]
        constructor
        · rintro ⟨hi, hk⟩
          exact ⟨List.mem_cons_of_mem _ hi, by rw [hn5 _ (List.mem_cons_of_mem _ hi), hmo i hi]; exact hk⟩
        · rintro ⟨hi, hk⟩
          rcases List.mem_cons.1 hi with q | hi
          · rw [q, hn5 _ (List.mem_cons_self ..), hna] at hk
            exact absurd hk.symm ek
          · rw [hn5 _ (List.mem_cons_of_mem _ hi), hmo i hi] at hk
            exact ⟨hi, hk⟩
    · rcases List.mem_cons.1 ((ins_perm _ _).mem_iff.1 he) with q | he
      · rw [q]; exact nr.1
      · exact h0.rng e he
    · have := h0.cK; omega
    · have o3 : ∀ k, own T3 b k → own T b k ∨ w.heap.size ≤ k := fun k hk => (hF.ow k hk).imp id fun q => by have := HW2.out.size; omega
      have f3 : Fr w w3 (own T b) := (Fr.of_below (S := own T b) HW2.out).trans hF.fr fun j hj => .inl hj
      have f4 : Fr w w4 (own T b) := f3.trans (S' := fun k => k = b) ⟨HT4.out.grown.os, HT4.out.grown.tape, HT4.out.grown.output, HT4.out.grown.size, fun k hk hb => Turned.block HT4.out hb⟩ fun j hj => .inl (.inr (.inr (.inr hj)))
      refine ⟨f4.trans hA5.fr o3, fun k hk => ?_⟩
      rcases hA5.ow k hk with q | q
      · exact o3 k q
      · right; have := f4.size; omega)
  clear hT5 hA5 hTS hX4 hF h0 fo hleaf hma hmo hal hlal hFF hF3 HV4 HT4 HF
  go_wp2_with fail
  exact bodyPost_ret (v := .int .i64 0) (by simp [results, Tryz.results14, go_sem, *]) rfl ⟨rfl, FIN.out⟩
/-- A bound put. -/
theorem putC {p K : Nat} {mg n : Int} {x : Bd} {L : List En} {S : Nat → Prop} (w : World) (h : TI w p mg L S K) (hK : K < 80000) :
    Calls Tryz.prog 14 #[.pointer (some ⟨p, 0, none⟩), .int .i64 n, .agg #[.int .i64 x.lo.x, .int .i64 x.lo.y, .int .i64 x.lo.z, .int .i64 x.hi.x, .int .i64 x.hi.y, .int .i64 x.hi.z]] w fun e w' => e = .returned (.int .i64 (putE L n x)) ∧ ∃ S', TI w' p mg (putL mg L n x) S' (K + 4) ∧ Aft2 w w' S S' := by
  obtain ⟨T, F, al, lv, b, c, pl, h, rfl⟩ := h
  have hm : w.cell? ⟨p, 0, none⟩ = some (.bool true) := by have := TO.madec h.ts.tx.to; rw [h.p_] at this; exact this
  by_cases he : askS n x = 0
  · have nr := askS_zero he
    cases hn : isIn L n with
    | true =>
      have e5 : putE L n x = 5 := by unfold putE; rw [if_pos nr.1, if_pos nr.2, if_pos hn]
      have e6 : putL mg L n x = L := by unfold putL; rw [if_neg (by rw [e5]; decide)]
      rw [e5, e6]
      obtain ⟨a, ha, _⟩ := h.look_in hn
      have h5 : w.cell? ⟨p, 5, none⟩ = some (.map (some b)) := by have := TO.mpc h.ts.tx.to; rw [h.p_, h.ts.tx.mp] at this; exact this
      refine (putIn w hm h.lt h5 h.ts.tx.vm he ha).mono ?_
      rintro e w1 ⟨rfl, hS⟩
      exact ⟨rfl, own T b, ⟨T, F, al, lv, b, c, pl, (h.step hS).mono (by omega), rfl⟩, Aft2.of_below hS⟩
    | false =>
      have e5 : putE L n x = 0 := by unfold putE; rw [if_pos nr.1, if_pos nr.2, hn]; rfl
      have e6 : putL mg L n x = ins L ⟨n, x, grow x mg⟩ := by unfold putL; rw [if_pos e5]
      rw [e5, e6]
      exact putNew w h hK he hn
  · have e5 := putE_ask (L := L) he
    have e6 : putL mg L n x = L := by unfold putL; rw [if_neg (by rw [e5]; exact he)]
    rw [e5, e6]
    refine (putErr w hm h.lt he).mono ?_
    rintro e w1 ⟨rfl, hS⟩
    exact ⟨rfl, own T b, ⟨T, F, al, lv, b, c, pl, (h.step hS).mono (by omega), rfl⟩, Aft2.of_below hS⟩
end TPu
end Go.Proofs.YtbcjnckejkjfeaaGreat
namespace Go.Proofs.YtbcjnckejkjfeaaGreat
set_option linter.unusedVariables false
set_option linter.unusedSimpArgs false
open Go.RowKit Go.NP
namespace TDr
open TrP TrW TrC TrA TrF TrG TrX TrY TrK THg TCt QVl QVm TMp TrE TrI TAs TPu
def delI (f : Int → Option Int) (n : Int) : Int → Option Int := fun k => if k = n then none else f k
theorem im_del (f : Int → Option Int) (n : Int) : delV (im f) n = im (delI f n) := by
  funext k; unfold delV im delI; split <;> rfl
/-- What Drop answers, and does. -/
def dropE (L : List En) (n : Int) : Int := if 1 ≤ n ∧ n ≤ 4096 then (if isIn L n then 0 else 4) else 2
def dropL (L : List En) (n : Int) : List En := if dropE L n = 0 then del L n else L
theorem ask0 (n : Int) : askS n bzero = if 1 ≤ n ∧ n ≤ 4096 then 0 else 2 := by unfold askS; rw [errIf_pos (by decide : bzero.ok)]
theorem less_perm {p K b c a : Nat} {mg n : Int} {L : List En} {T : Tn} {F al lv lv' : List Int} {pl : Int → Option Int} {w : World} (h : TI0 w p mg L K T F al lv b c pl) (hp : ((a : Int) :: lv').Perm lv) (hn : (T.m a).n = n) (hi : isIn L n = true) : (lv'.map (ent T.m)).Perm (del L n) := by
  obtain ⟨e, he, hen, hd⟩ := del_perm h.rise hi
  have h1 : (ent T.m a :: lv'.map (ent T.m)).Perm (e :: del L n) := ((hp.map (ent T.m)).trans h.perm).trans hd
  have h2 : ent T.m a = e := rise_n h.rise (h.mem (hp.mem_iff.1 (List.mem_cons_self ..))) he (by rw [hen]; exact hn)
  rw [h2] at h1
  exact h1.cons_inv
theorem lv_al {m : M} {t : Int} {al lv : List Int} (h : Shape m t al lv) : ∀ i ∈ lv, i ∈ al := fun i hi => (Shape.leafs h i hi).1
/-- One leaf less. -/
theorem pls_less {pl : Int → Option Int} {m : M} {lv lv' : List Int} {a n : Int} (h : ∀ n i, pl n = some i ↔ i ∈ lv ∧ (m i).n = n) (hp : (a :: lv').Perm lv) (hn : (m a).n = n) (ha : a ∉ lv') : ∀ k i, delI pl n k = some i ↔ i ∈ lv' ∧ (m i).n = k := fun k i => by
  unfold delI
  have hpa : pl n = some a := (h n a).2 ⟨hp.mem_iff.1 (List.mem_cons_self ..), hn⟩
  by_cases e : k = n
  · subst e
    rw [if_pos rfl]
    constructor
    · intro q; cases q
    · rintro ⟨hi, hk⟩
      have := (h k i).2 ⟨hp.mem_iff.1 (List.mem_cons_of_mem _ hi), hk⟩
      rw [hpa] at this
      injection this with this
      rw [this] at ha; exact absurd hi ha
  · rw [if_neg e, h k i]
    constructor
    · rintro ⟨hi, hk⟩
      rcases List.mem_cons.1 (hp.mem_iff.2 hi) with q | hi
      · rw [q, hn] at hk; exact absurd hk.symm e
      · exact ⟨hi, hk⟩
    · rintro ⟨hi, hk⟩
      exact ⟨hp.mem_iff.1 (List.mem_cons_of_mem _ hi), hk⟩
set_option maxRecDepth 100000 in
set_option maxHeartbeats 4000000 in
theorem dropErr {p : Nat} {n : Int} (w : World) (hm : w.cell? ⟨p, 0, none⟩ = some (.bool true)) (hp : p < w.heap.size) (he : askS n bzero ≠ 0) : RetB Tryz.prog 19 #[.pointer (some ⟨p, 0, none⟩), .int .i64 n] w (.int .i64 (askS n bzero)) := by
  have AS := Lib.hid (askedC (n := n) (x := bzero) _ hm hp)
  obtain ⟨e, hee⟩ : ∃ e, askS n bzero = e := ⟨_, rfl⟩
  rw [hee] at he
  rw [hee] at AS ⊢
  have t1 : (e != 0) = true := by simpa using he
  unfold RetB
  go_enter Tryz.func19, Tryz.ntmps19
  go_wp2_with fail
  refine AS.out.mono ?_
  rintro e1 w1 ⟨rfl, hS⟩
  go_wp2_with fail
  exact bodyPost_ret (v := .int .i64 e) (by simp [results, Tryz.results19, go_sem, *]) rfl ⟨rfl, hS⟩
set_option maxRecDepth 100000 in
set_option maxHeartbeats 4000000 in
theorem dropNo {p b c : Nat} {n : Int} {pl : Int → Option Int} (w : World) (hm : w.cell? ⟨p, 0, none⟩ = some (.bool true)) (hp : p < w.heap.size) (h5 : w.cell? ⟨p, 5, none⟩ = some (.map (some b))) (hv : VM w b (im pl) c) (hr : 1 ≤ n ∧ n ≤ 4096) (hn : pl n = none) : RetB Tryz.prog 19 #[.pointer (some ⟨p, 0, none⟩), .int .i64 n] w (.int .i64 4) := by
  have AS := Lib.hid (askedC (n := n) (x := bzero) _ hm hp)
  rw [ask0, if_pos hr] at AS
  have wf := wf_rng hr
  unfold RetB
  go_enter Tryz.func19, Tryz.ntmps19
  go_wp2_with fail
  refine AS.out.mono ?_
  rintro e1 w1 ⟨rfl, hW⟩
  have c5 : w1.cell? ⟨p, 5, none⟩ = some (.map (some b)) := by rw [(bcell hW).1 p 5 hp]; exact h5
  have hv1 := hv.step hW
  have l1 := hv1.look_ok wf Tryz.underlying57 (zI w1)
  rw [im_some, im_no hn, hn] at l1
  simp only [Option.isSome_none] at l1
  have HW := Lib.hid hW
  have hp1 : p < w1.heap.size := by have := hW.size; omega
  clear hm h5 hv hW hv1
  go_wp2_with fail
  exact bodyPost_ret (v := .int .i64 4) (by simp [results, Tryz.results19, go_sem, *]) rfl ⟨rfl, HW.out⟩
set_option maxRecDepth 100000 in
set_option maxHeartbeats 4000000 in
theorem dropIn {p K b c : Nat} {mg n : Int} {L : List En} {T : Tn} {F al lv : List Int} {pl : Int → Option Int} (w : World) (h : TI0 w p mg L K T F al lv b c pl) (hK : K < 80000) (hr : 1 ≤ n ∧ n ≤ 4096) (hn : isIn L n = true) :
    Calls Tryz.prog 19 #[.pointer (some ⟨p, 0, none⟩), .int .i64 n] w fun e w' => e = .returned (.int .i64 0) ∧ ∃ S', TI w' p mg (del L n) S' (K + 4) ∧ Aft2 w w' (own T b) S' := by
  have hp := h.lt
  have hm : w.cell? ⟨p, 0, none⟩ = some (.bool true) := by have := TO.madec h.ts.tx.to; rw [h.p_] at this; exact this
  have AS := Lib.hid (askedC (n := n) (x := bzero) _ hm hp)
  rw [ask0, if_pos hr] at AS
  have wf := wf_rng hr
  obtain ⟨a, hpa, hal, han, haN, _⟩ := h.look_in hn
  have H0 := Lib.hid h
  clear h hm
  go_enter Tryz.func19, Tryz.ntmps19
  go_wp2_with fail
  refine AS.out.mono ?_
  rintro e1 w1 ⟨rfl, hW⟩
  have h2 := H0.out.step hW
  have c5 : w1.cell? ⟨p, 5, none⟩ = some (.map (some b)) := by have := TO.mpc h2.ts.tx.to; rw [h2.p_, h2.ts.tx.mp] at this; exact this
  have hvm := h2.ts.tx.vm
  have l1 := hvm.look_ok wf Tryz.underlying57 (zI w1)
  rw [im_some, im_at hpa, hpa] at l1
  simp only [Option.isSome_some] at l1
  have hp1 := h2.lt
  have HW := Lib.hid hW; have H2 := Lib.hid h2
  clear h2 hW AS hp
  go_wp2_with (at_delete; refine wpL_del (by rfl) (.tmp 29) (.tmp 30) (by rfl) (by rfl) (by rfl) hvm wf Tryz.underlying57 ?_; intro w2 hv2 ht2; have HV2 := Lib.hid hv2; have HT2 := Lib.hid ht2; clear hv2 ht2 c5 hp1 l1)
  have h2 := H2.out
  have hX2 : TX w2 T F b c (delI pl n) := by
    refine mapK h2.ts.tx ?_ HT2.out
    have := HV2.out
    rw [im_del] at this; exact this
  have hTS : TS w2 T F al lv b c (delI pl n) K := ⟨hX2, h2.ts.sh, h2.ts.nd, h2.ts.rng, h2.ts.n1, h2.ts.n2, h2.ts.n3⟩
  have hCT := cutC (a := a) w2 hTS (by omega) hal
  rw [h2.p_] at hCT
  refine hCT.mono ?_
  clear hCT
  rintro e w3 ⟨rfl, T3, F3, al3, lv3, hC⟩
  have hT3 : TN w3 T3 := by
    rcases hC.ts.tx.to with ⟨q, _⟩ | q
    · have := hC.lt; omega
    · exact q
  have hpT : T3.p = p := hC.af.p.trans h2.p_
  have c3 : w3.cell? ⟨p, 3, none⟩ = some T3.fr := by have := TO.fr hC.ts.tx.to; rw [hpT] at this; exact this
  have l3 : p < w3.heap.size := by have := hC.ts.tx.pLt; rw [hpT] at this; exact this
  have hWa : Below w3.heap.size w3 (w3.alloc (.cells [.int .i64 (a : Int)].toArray 3)) := (Below.refl _ _).alloc (Nat.le_refl _) _
  have hXa := hC.ts.tx.step hWa
  have hTa := hT3.step hWa
  have hOa : OwnV (w3.alloc (.cells [.int .i64 (a : Int)].toArray 3)) 0 3 T3.fr (iv F3) := hXa.fr
  have hXc : (w3.alloc (.cells [.int .i64 (a : Int)].toArray 3)).cell? ⟨w3.heap.size, 0, none⟩ = some (.int .i64 (a : Int)) := by rw [(Box.new rfl : Box _ w3.heap.size [.int .i64 (a : Int)] 3).cell]; rfl
  have hlen : (iv F3).length ≤ 1000000 := by have := hC.ts.n2; rw [iv_len]; omega
  have HXa := Lib.hid hXa; have HTa := Lib.hid hTa; have HWa := Lib.hid hWa; have HC := Lib.hid hC
  have C37 := Lib.hid (fun (v7 : Value) (w7 : World) (hG : World.grownBy (w3.alloc (.cells [.int .i64 (a : Int)].toArray 3)) w7 T3.fr.ownBlock) => (show w7.cell? ⟨T3.p, 3, none⟩ = some T3.fr ∧ w7.frozen? ⟨T3.p, 3, none⟩ = false ∧ p < w7.heap.size from by
    have hp := hG.block _ (TN.lt HTa.out).1 fun e => (HXa.out.fp _ e.symm).1 rfl
    have hb := Box.block HTa.out.box hp
    exact ⟨by rw [hb.cell]; rfl, hb.free 3, by rw [← hpT]; exact hb.lt⟩))
  have PU := Lib.hid (fun (v7 : Value) (w7 : World) (hO : OwnV w7 0 3 v7 (iv F3 ++ [.int .i64 (a : Int)])) (hG : World.grownBy (w3.alloc (.cells [.int .i64 (a : Int)].toArray 3)) w7 T3.fr.ownBlock) (hL : v7.ownBlock = T3.fr.ownBlock ∨ v7.ownBlock = some (w3.alloc (.cells [.int .i64 (a : Int)].toArray 3)).heap.size) => TX.push HXa.out HTa.out hO hG hL)
  clear hC hXa hTa hWa hT3 hTS hX2 h2
  go_wp2_with (first | (at_builtin; refine wpV_app Tryz.underlying50 infoI (by rfl) (by decide) (by rfl) (.tmp 38) (.tmp 40) (by rfl) (by rfl) hOa (by rfl) hXc (by rfl) hlen (Nat.zero_le _) ?_; intro v7 w7 hO7 hG7 hL7 hB7; have s7 := own_one hO7; obtain ⟨c37, f37, l37⟩ := C37.out v7 w7 hG7; have P7 := Lib.hid (PU.out _ w7 hO7 hG7 hL7); clear hO7 hG7 hL7 hB7; (conv => arg 5; simp only [Act.put, List.setIfInBounds_toArray, List.set_cons_zero, List.set_cons_succ]); (iterate 2 (with_reducible refine wpL_val (v := ?_) ?_ ?_ ?_; rotate_left; (· kernel_rfl); (· go_simp; try with_reducible rfl); conv => arg 5; simp only [Act.put, List.setIfInBounds_toArray, List.set_cons_zero, List.set_cons_succ])); (refine wpL_sc (x := .tmp 43) (y := .tmp 41) (b := T3.p) (off := 3) (v := v7) (by rfl) (by rfl) (by rw [hpT]; rfl) (by rfl) s7.1 s7.2 szIs (by rw [c37]; rfl) f37 ?_); (conv => arg 5; simp only [Act.put, List.setIfInBounds_toArray, List.set_cons_zero, List.set_cons_succ]); refine wpList_nil ?_))
  revert P7
  generalize w7.setCell ⟨T3.p, 3, none⟩ v7 = w8
  intro P7
  obtain ⟨q1, q2, q3, q4⟩ := P7.out
  refine bodyPost_ret (v := .int .i64 0) (by simp [results, Tryz.results19, go_sem, *]) rfl ⟨rfl, ?_⟩
  have hC := HC.out
  have h0 := H2.out
  have hna : ∀ i ∈ lv3, i ∈ al3 := fun i hi => lv_al hC.ts.sh i hi
  have hout : (a : Int) ∉ lv3 := fun hm => hC.out (List.mem_append_left _ (hna _ hm))
  have hent : ∀ i ∈ lv3, ent T3.m i = ent T.m i := fun i hi => by
    obtain ⟨e1, e2, e3⟩ := hC.af.ent i (hC.lv.mem_iff.1 (List.mem_cons_of_mem _ hi))
    unfold ent; rw [e1, e2, e3]
  have nd3 := hC.ts.nd
  refine ⟨own { T3 with fr := v7 } b, ⟨{ T3 with fr := v7 }, F3 ++ [(a : Int)], al3, lv3, b, c, delI pl n, ⟨⟨q1, hC.ts.sh, ?_, fun i hi => ?_, ?_, ?_, ?_⟩, hpT, hC.af.mg.trans h0.mg_, h0.mg0, ?_, del_rise _ h0.rise, fun k i => ?_, fun e he => h0.rng e ((del_sub L n).subset he), ?_⟩, rfl⟩, ?_⟩
  · rw [← List.append_assoc]
    refine List.nodup_append.2 ⟨nd3, by simp, fun i hi j hj => ?_⟩
    rw [List.mem_singleton.1 hj]
    exact fun e => hC.out (e ▸ hi)
  · show 0 ≤ i ∧ i < (T3.N : Int)
    rw [← List.append_assoc] at hi
    rcases List.mem_append.1 hi with hi | hi
    · exact hC.ts.rng i hi
    · rw [List.mem_singleton.1 hi]; have := hC.lt; omega
  · have := hC.ts.n1; show T3.N ≤ K + 4; omega
  · have := hC.ts.n2; rw [List.length_append, List.length_singleton]; omega
  · have := hC.ts.n3; omega
  · show (lv3.map (ent T3.m)).Perm _
    rw [List.map_congr_left hent]
    exact less_perm h0 hC.lv han hn
  · have := pls_less h0.pls hC.lv han hout k i
    rw [this]
    constructor
    · rintro ⟨hi, hk⟩
      refine ⟨hi, ?_⟩
      rw [← hk]; exact (hC.af.ent i (hC.lv.mem_iff.1 (List.mem_cons_of_mem _ hi))).1
    · rintro ⟨hi, hk⟩
      refine ⟨hi, ?_⟩
      rw [← hk]; exact (hC.af.ent i (hC.lv.mem_iff.1 (List.mem_cons_of_mem _ hi))).1.symm
  · have := h0.cK; omega
  · have f2 : Fr w w2 (own T b) := (Fr.of_below (S := own T b) HW.out).trans (S' := fun k => k = b) ⟨HT2.out.grown.os, HT2.out.grown.tape, HT2.out.grown.output, HT2.out.grown.size, fun k hk hb => Turned.block HT2.out hb⟩ fun j hj => .inl (.inr (.inr (.inr hj)))
    have f3 := f2.trans hC.af.fr fun j hj => .inl hj
    have o3 : ∀ k, own T3 b k → own T b k ∨ w.heap.size ≤ k := fun k hk => (hC.af.ow k hk).imp id fun q => by have := f2.size; omega
    have f4 := (f3.trans (Fr.of_below (S := own T b) HWa.out) fun j hj => .inl hj)
    have f5 := f4.trans q3 o3
    refine ⟨f5, fun k hk => ?_⟩
    rcases q4 k hk with q | q
    · exact o3 k q
    · right; have := f4.size; omega
/-- A bound dropped. -/
theorem dropC {p K : Nat} {mg n : Int} {L : List En} {S : Nat → Prop} (w : World) (h : TI w p mg L S K) (hK : K < 80000) :
    Calls Tryz.prog 19 #[.pointer (some ⟨p, 0, none⟩), .int .i64 n] w fun e w' => e = .returned (.int .i64 (dropE L n)) ∧ ∃ S', TI w' p mg (dropL L n) S' (K + 4) ∧ Aft2 w w' S S' := by
  obtain ⟨T, F, al, lv, b, c, pl, h, rfl⟩ := h
  have hm : w.cell? ⟨p, 0, none⟩ = some (.bool true) := by have := TO.madec h.ts.tx.to; rw [h.p_] at this; exact this
  by_cases hr : 1 ≤ n ∧ n ≤ 4096
  · cases hn : isIn L n with
    | true =>
      have e5 : dropE L n = 0 := by unfold dropE; rw [if_pos hr, if_pos hn]
      have e6 : dropL L n = del L n := by unfold dropL; rw [if_pos e5]
      rw [e5, e6]
      exact dropIn w h hK hr hn
    | false =>
      have e5 : dropE L n = 4 := by unfold dropE; rw [if_pos hr, hn]; rfl
      have e6 : dropL L n = L := by unfold dropL; rw [if_neg (by rw [e5]; decide)]
      rw [e5, e6]
      have h5 : w.cell? ⟨p, 5, none⟩ = some (.map (some b)) := by have := TO.mpc h.ts.tx.to; rw [h.p_, h.ts.tx.mp] at this; exact this
      refine (dropNo w hm h.lt h5 h.ts.tx.vm hr (h.look_out hn)).mono ?_
      rintro e w1 ⟨rfl, hS⟩
      exact ⟨rfl, own T b, ⟨T, F, al, lv, b, c, pl, (h.step hS).mono (by omega), rfl⟩, Aft2.of_below hS⟩
  · have e0 : askS n bzero = 2 := by rw [ask0, if_neg hr]
    have e5 : dropE L n = 2 := by unfold dropE; rw [if_neg hr]
    have e6 : dropL L n = L := by unfold dropL; rw [if_neg (by rw [e5]; decide)]
    rw [e5, e6]
    have := dropErr (n := n) w hm h.lt (by rw [e0]; decide)
    rw [e0] at this
    refine Calls.mono this ?_
    rintro e w1 ⟨rfl, hS⟩
    exact ⟨rfl, own T b, ⟨T, F, al, lv, b, c, pl, (h.step hS).mono (by omega), rfl⟩, Aft2.of_below hS⟩
end TDr
end Go.Proofs.YtbcjnckejkjfeaaGreat
namespace Go.Proofs.YtbcjnckejkjfeaaGreat
set_option linter.unusedVariables false
set_option linter.unusedSimpArgs false
open Go.RowKit Go.NP
namespace DDr
def Stop (p : Prop) : Prop := p
theorem stop_ {p : Prop} (h : Stop p) : p := h
open TrW TrC TrA TrX TrE TDr DSl DPl DTr
theorem del_is (L : List En) (q : Int) : L.take (lo L q).length ++ L.drop ((lo L q).length + 1) = del L q := by
  rw [lo_take, ← List.drop_drop, hi_drop]; rfl
set_option maxRecDepth 100000 in
set_option maxHeartbeats 4000000 in
theorem rdrRng {t : Nat} {q : Int} (w : World) (h : ¬ (1 ≤ q ∧ q ≤ 4096)) : RetB Tryz.prog 20 #[.pointer (some ⟨t, 0, none⟩), .int .i64 q] w (.int .i64 2) := by
  unfold RetB
  by_cases h1 : q < 1
  · have t1 : decide (q < 1) = true := decide_eq_true h1
    clear h h1
    go_enter Tryz.func20, Tryz.ntmps20
    go_wp2_with fail
    exact bodyPost_ret (v := .int .i64 2) (by simp [results, Tryz.results20, go_sem]) rfl ⟨rfl, Below.refl _ _⟩
  · have t1 : decide (q < 1) = false := decide_eq_false h1
    have t2 : decide (4096 < q) = true := decide_eq_true (by omega)
    clear h h1
    go_enter Tryz.func20, Tryz.ntmps20
    go_wp2_with fail
    exact bodyPost_ret (v := .int .i64 2) (by simp [results, Tryz.results20, go_sem]) rfl ⟨rfl, Below.refl _ _⟩
set_option maxRecDepth 100000 in
set_option maxHeartbeats 4000000 in
theorem rdropC {t : Nat} {mg q : Int} {L : List En} (w : World) {P : Nat → Prop} (h : DT w t mg L P) (hP : ∀ k, w.heap.size ≤ k → P k) (hr : Rise L) (hl : L.length ≤ 1000) :
    Calls Tryz.prog 20 #[.pointer (some ⟨t, 0, none⟩), .int .i64 q] w fun e w' => e = .returned (.int .i64 (dropE L q)) ∧ DT w' t mg (dropL L q) P ∧ Fr w w' fun k => k = t := by
  by_cases hq : 1 ≤ q ∧ q ≤ 4096
  · obtain ⟨A, cap, h, hA⟩ := h
    have HPP := Lib.hid hP; have HAA := Lib.hid hA
    clear hP hA
    have hbx := h.bx
    have HP := Lib.hid (placeC cap mg q w h.sl hr (by omega))
    have hz := lo_len L q
    have t1 : decide (q < 1) = false := decide_eq_false (by omega)
    have t2 : decide (4096 < q) = false := decide_eq_false (by omega)
    have H := Lib.hid h
    have lt0 := hbx.lt
    cases hc : isIn L q
    · rw [hc] at HP
      have e0 : dropE L q = 4 := by unfold dropE; rw [if_pos hq, hc]; rfl
      have e1 : dropL L q = L := by unfold dropL; rw [if_neg (by rw [e0]; decide)]
      rw [e0, e1]
      clear h e0 e1 hq hc
      go_enter Tryz.func20, Tryz.ntmps20
      go_wp2_with (refine wpL_load (l := [.int .i64 mg, .slice A L.length cap]) (by rfl) (by rfl) hbx Tryz.underlying30 (by rfl) (by kernel_rfl) (by kernel_rfl) ?_; (conv => arg 5; simp only [Act.put, List.setIfInBounds_toArray, List.set_cons_zero, List.set_cons_succ]))
      refine HP.out.mono ?_
      rintro e w2 ⟨rfl, hb2⟩
      clear hbx
      go_wp2_with fail
      exact bodyPost_ret (v := .int .i64 4) (by simp [results, Tryz.results20, go_sem]) rfl ⟨rfl, ⟨A, cap, H.out.step hb2, HAA.out⟩, Fr.of_below hb2⟩
    · rw [hc] at HP
      have e0 : dropE L q = 0 := by unfold dropE; rw [if_pos hq, hc]; rfl
      have e1 : dropL L q = del L q := by unfold dropL; rw [if_pos e0]
      have ed := del_is L q
      have hzl : (lo L q).length < L.length := by
        rcases Nat.lt_or_ge (lo L q).length L.length with h | h
        · exact h
        · have := in_none hr (q := q) (by omega); rw [this] at hc; cases hc
      rw [e0, e1, ← ed]
      clear h e0 e1 hq hc ed hr
      revert HP hz hzl
      generalize (lo L q).length = z
      intro HP hz hzl
      obtain ⟨b, off, rfl, hbl, _⟩ := H.out.sl.2 (by omega)
      have hlc := H.out.lc
      obtain ⟨n, hn⟩ : ∃ n, L.length = n := ⟨_, rfl⟩
      have HN := Lib.hid hn
      rw [hn] at hbx HP hz hzl hlc hl
      clear hn
      go_enter Tryz.func20, Tryz.ntmps20
      go_wp2_with (refine wpL_load (l := [.int .i64 mg, .slice (some ⟨b, off, none⟩) n cap]) (by rfl) (by rfl) hbx Tryz.underlying30 (by rfl) (by kernel_rfl) (by kernel_rfl) ?_; (conv => arg 5; simp only [Act.put, List.setIfInBounds_toArray, List.set_cons_zero, List.set_cons_succ]))
      refine HP.out.mono ?_
      rintro e w2 ⟨rfl, hb2⟩
      have ct := (hbx.step hb2).cell 1
      simp only [List.getElem?_cons_zero, List.getElem?_cons_succ] at ct
      have hg2 : t < w2.heap.size := by have := hb2.size; omega
      have z0 : 0 ≤ (z : Int) ∧ (z : Int) ≤ (cap : Int) := by omega
      have v1 : IntKind.i64.wrap ((z : Int) + 1) = ((z + 1 : Nat) : Int) := by rw [IntKind.wrap_i64]; omega
      have HBX := Lib.hid (hbx.step hb2)
      clear hbx HP
      have hN : Below w2.heap.size w2 (w2.alloc (.cells #[] 79)) := (Below.refl _ _).alloc (Nat.le_refl _) _
      have hO0 : OwnE (w2.alloc (.cells #[] 79)) w2.heap.size (.slice (some ⟨w2.heap.size, 0, none⟩) 0 0) [] := DSl.own_new w2 [] (by simp)
      have hsl : SlE (w2.alloc (.cells #[] 79)) (some ⟨b, off, none⟩) n L := HN.out ▸ (H.out.step hb2).sl.step hN
      have hl1 : SlEC (w2.alloc (.cells #[] 79)) (some ⟨b, off, none⟩) z cap (L.take z) := ⟨DTr.SlE.take hsl (by omega), fun e => by cases e⟩
      have hz1 : z ≤ 100000 := by omega
      have hm1 : (List.take z L).length ≤ 100000 := by rw [List.length_take]; omega
      have hn2 : n - (z + 1) ≤ 100000 := by omega
      have hbN : w2.heap.size ≤ (w2.alloc (.cells #[] 79)).heap.size := hN.size
      have ctN : (w2.alloc (.cells #[] 79)).cell? ⟨t, 1, none⟩ = some (.slice (some ⟨b, off, none⟩) n cap) := by rw [(bcell hN).1 t 1 hg2]; exact ct
      have hgN : t < (w2.alloc (.cells #[] 79)).heap.size := by omega
      have HN2 := Lib.hid hN
      have z1 : 0 ≤ ((z + 1 : Nat) : Int) ∧ ((z + 1 : Nat) : Int) ≤ (n : Int) := by omega
      by_cases hcz : cap = z + 1
      · subst hcz
        obtain rfl : n = z + 1 := by omega
        have HB6 := Lib.hid (fun (u : World) (hu : Below w2.heap.size w2 u) => (show u.cell? ⟨t, 1, none⟩ = some (.slice (some ⟨b, off, none⟩) (z + 1) (z + 1)) ∧ t < u.heap.size ∧ SlEC u (some ⟨b, off, none⟩) 0 0 (L.drop (z + 1)) ∧ w2.heap.size ≤ u.heap.size ∧ Box u t [.int .i64 mg, .slice (some ⟨b, off, none⟩) (z + 1) (z + 1)] 30 from by
          have hx := (HBX.out.step hu)
          have hs := HN.out ▸ ((H.out.step hb2).step hu).sl
          have hbu : b < u.heap.size := by have := hb2.size; have := hu.size; omega
          exact ⟨hx.cell 1, by have := hu.size; omega, ⟨⟨by rw [List.length_drop, hs.1]; omega, fun h => absurd h (by omega)⟩, fun e => by cases e⟩, hu.size, hx⟩))
        have HW := Lib.hid hb2
        clear hb2 hbl
        go_wp2_with (at_builtin; refine wpE_all (by rfl) (.tmp 24) (.tmp 30) (by rfl) (by rfl) hO0 (by rfl) hl1 (by simp) hz1 hbN ?_; intro v6 w6 hO6 hB6; refine stop_ ?_)
        have hb6 := hB6 w2 HN2.out
        obtain ⟨ct6, hg6, hl6, hs6, hx6⟩ := HB6.out w6 hb6
        clear ctN hgN hO0 hl1 hbN hB6 hN hsl ct HBX
        unfold Stop
        go_wp2_with (at_builtin; refine wpE_all (by rfl) (.tmp 33) (.tmp 40) (by rfl) (by rfl) hO6 (by rfl) hl6 (by simpa using hm1) (Nat.zero_le _) hs6 ?_; intro v7 w7 hO7 hB7; refine stop_ ?_)
        have hb7 := hB7 w2 hb6
        obtain ⟨ct7, hg7, _, _, hx7⟩ := HB6.out w7 hb7
        have cf7 := hx7.free 1
        clear ct6 hg6 hl6 hs6
        rw [List.nil_append] at hO7
        obtain ⟨A7, c7, n7, e7⟩ : ∃ A c n, v7 = .slice A n c := by obtain ⟨A, c, e, _⟩ := hO7.sl; exact ⟨_, _, _, e⟩
        subst e7
        unfold Stop
        go_wp2_with fail
        have hfr := fun v => (Fr.of_below (S := fun k => k = t) (HW.out.trans (hb7.mono HW.out.size))).trans (fr_cell w7 t 1 v) (fun j hj => .inl hj)
        exact bodyPost_ret (v := .int .i64 0) (by simp [results, Tryz.results20, go_sem]) rfl ⟨rfl, own_dt hO7 hx7 hg2 cf7 (fun k hk => HPP.out k (by have := HW.out.size; omega)), hfr _⟩
      · skip
        have HB6 := Lib.hid (fun (u : World) (hu : Below w2.heap.size w2 u) => (show u.cell? ⟨t, 1, none⟩ = some (.slice (some ⟨b, off, none⟩) n cap) ∧ t < u.heap.size ∧ SlEC u (some ⟨b, off + (z + 1) * 13, none⟩) (n - (z + 1)) (cap - (z + 1)) (L.drop (z + 1)) ∧ w2.heap.size ≤ u.heap.size ∧ Box u t [.int .i64 mg, .slice (some ⟨b, off, none⟩) n cap] 30 from by
          have hx := (HBX.out.step hu)
          have hs := HN.out ▸ ((H.out.step hb2).step hu).sl
          have hbu : b < u.heap.size := by have := hb2.size; have := hu.size; omega
          exact ⟨hx.cell 1, by have := hu.size; omega, ⟨DTr.SlE.drop (z + 1) hs hbu, fun e => by cases e⟩, hu.size, hx⟩))
        have HW := Lib.hid hb2
        clear hb2 hbl
        go_wp2_with (at_builtin; refine wpE_all (by rfl) (.tmp 24) (.tmp 30) (by rfl) (by rfl) hO0 (by rfl) hl1 (by simp) hz1 hbN ?_; intro v6 w6 hO6 hB6; refine stop_ ?_)
        have hb6 := hB6 w2 HN2.out
        obtain ⟨ct6, hg6, hl6, hs6, hx6⟩ := HB6.out w6 hb6
        clear ctN hgN hO0 hl1 hbN hB6 hN hsl ct HBX
        unfold Stop
        go_wp2_with (at_builtin; refine wpE_all (by rfl) (.tmp 33) (.tmp 40) (by rfl) (by rfl) hO6 (by rfl) hl6 (by simpa using hm1) hn2 hs6 ?_; intro v7 w7 hO7 hB7; refine stop_ ?_)
        have hb7 := hB7 w2 hb6
        obtain ⟨ct7, hg7, _, _, hx7⟩ := HB6.out w7 hb7
        have cf7 := hx7.free 1
        clear ct6 hg6 hl6 hs6
        rw [List.nil_append] at hO7
        obtain ⟨A7, c7, n7, e7⟩ : ∃ A c n, v7 = .slice A n c := by obtain ⟨A, c, e, _⟩ := hO7.sl; exact ⟨_, _, _, e⟩
        subst e7
        unfold Stop
        go_wp2_with fail
        have hfr := fun v => (Fr.of_below (S := fun k => k = t) (HW.out.trans (hb7.mono HW.out.size))).trans (fr_cell w7 t 1 v) (fun j hj => .inl hj)
        exact bodyPost_ret (v := .int .i64 0) (by simp [results, Tryz.results20, go_sem]) rfl ⟨rfl, own_dt hO7 hx7 hg2 cf7 (fun k hk => HPP.out k (by have := HW.out.size; omega)), hfr _⟩
  · have e0 : dropE L q = 2 := if_neg hq
    have e1 : dropL L q = L := by unfold dropL; rw [if_neg (by rw [e0]; decide)]
    rw [e0, e1]
    exact (rdrRng w hq).mono fun e w' ⟨he, hb⟩ => ⟨he, h.step hb, Fr.of_below hb⟩
end DDr
end Go.Proofs.YtbcjnckejkjfeaaGreat
