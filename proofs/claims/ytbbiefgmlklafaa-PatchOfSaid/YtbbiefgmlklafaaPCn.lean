/- A slice of spots of one's own; slices.Clone of spots: the walk. Condition: the slice's cells are as told. -/
import Derived.Test.YtbbiefgmlklafaaPCk
import Derived.WalkSpells
import Derived.Lib.SliceRun
import Derived.Laws.AppendOwn
import Derived.OwnWalk
namespace Go.Proofs.Ytbbiefgmlklafaa
set_option linter.unusedVariables false
set_option linter.unusedSimpArgs false
open Go.RowKit Go.NP
/-- The cells of spots. -/
def spvs (l : List Spo) : List Value := l.flatMap spv
theorem spvs_len (l : List Spo) : (spvs l).length = l.length * 5 := by
  induction l with
  | nil => rfl
  | cons x r ih => rw [spvs, List.flatMap_cons, List.length_append, List.length_cons]; rw [spvs] at ih; rw [ih]; simp [spv]; omega
theorem spvs_append (l m : List Spo) : spvs (l ++ m) = spvs l ++ spvs m := by unfold spvs; rw [List.flatMap_append]
theorem spvs_get : ∀ (l : List Spo) (k : Nat) (s : Spo) (j : Nat) (v : Value), l[k]? = some s → (spv s)[j]? = some v → (spvs l)[k * 5 + j]? = some v
  | [], _, _, _, _, h, _ => by cases h
  | x :: r, 0, s, j, v, h, hv => by
    obtain rfl : x = s := by simpa using h
    rw [spvs, List.flatMap_cons, Nat.zero_mul, Nat.zero_add]
    have hj : j < (spv x).length := PCl.get_lt hv
    rw [List.getElem?_append_left hj]; exact hv
  | x :: r, k + 1, s, j, v, h, hv => by
    have h' : r[k]? = some s := by simpa using h
    have ih := spvs_get r k s j v h' hv
    rw [spvs, List.flatMap_cons]
    rw [show (k + 1) * 5 + j = (spv x).length + (k * 5 + j) by simp [spv]; omega, List.getElem?_append_right (by omega), Nat.add_sub_cancel_left]
    exact ih
theorem spvs_at {l : List Spo} {j : Nat} {v : Value} (h : (spvs l)[j]? = some v) : ∃ s, l[j / 5]? = some s ∧ (spv s)[j % 5]? = some v := by
  have hj : j < l.length * 5 := by rw [← spvs_len]; exact PCl.get_lt h
  have hk : j / 5 < l.length := by omega
  refine ⟨l[j / 5], List.getElem?_eq_getElem hk, ?_⟩
  have h5 : j % 5 < (spv l[j / 5]).length := by simp [spv]; omega
  have := spvs_get l (j / 5) l[j / 5] (j % 5) _ (List.getElem?_eq_getElem hk) (List.getElem?_eq_getElem h5)
  rw [show j / 5 * 5 + j % 5 = j by omega, h] at this
  rw [List.getElem?_eq_getElem h5, ← Option.some.inj this]
theorem spv_one {s : Spo} : ∀ v ∈ spv s, v.oneCell' = true := by simp [spv, Value.oneCell']
theorem spvs_one {l : List Spo} : ∀ v ∈ spvs l, v.oneCell' = true := fun v hv => by
  obtain ⟨s, _, h⟩ := List.mem_flatMap.1 hv
  exact spv_one v h
/-- A slice of one's own that holds these spots. -/
def OwnS (w : World) (base : Nat) (v : Value) (l : List Spo) : Prop := w.ownsRow base 32 5 v l.length (spvs l)
theorem OwnS.sl {w : World} {base : Nat} {v : Value} {l : List Spo} (h : OwnS w base v l) : ∃ A cap, v = .slice A l.length cap ∧ SlS w A l.length l := by
  rcases h.2 with ⟨rfl, h0⟩ | ⟨g, cap, cur, rfl, hb, hg, hc, hm, hsz, hx⟩
  · exact ⟨none, 0, by rw [h0], rfl, fun h => absurd h (by omega)⟩
  · refine ⟨some ⟨g, 0, none⟩, cap, rfl, rfl, fun _ => ⟨g, 0, rfl, (Array.getElem?_eq_some_iff.1 hg).1, fun k s hk j v hv => ?_⟩⟩
    have h1 := spvs_get l k s j v hk hv
    rw [← hx] at h1
    have h2 : k * 5 + j < l.length * 5 := by have := PCl.get_lt h1; rw [hx, spvs_len] at this; exact this
    rw [List.getElem?_take_of_lt h2] at h1
    simp only [World.cell?, hg, Nat.zero_add]
    simpa using h1
theorem OwnS.nil (w : World) (base : Nat) : OwnS w base (.slice none 0 0) [] := ⟨rfl, .inl ⟨rfl, rfl⟩⟩
theorem OwnS.step {w w' : World} {base : Nat} {v : Value} {l : List Spo} (h : OwnS w base v l) (hS : Below w.heap.size w w') : OwnS w' base v l := by
  refine ⟨h.1, ?_⟩
  rcases h.2 with h1 | ⟨g, cap, cur, h1, hb, hg, h2⟩
  · exact .inl h1
  · exact .inr ⟨g, cap, cur, h1, hb, (hS.block g (Array.getElem?_eq_some_iff.1 hg).1).trans hg, h2⟩
theorem OwnS.mono {w : World} {base base' : Nat} {v : Value} {l : List Spo} (h : OwnS w base v l) (hb : base' ≤ base) : OwnS w base' v l := by
  refine ⟨h.1, ?_⟩
  rcases h.2 with h1 | ⟨g, cap, cur, h1, hb', h2⟩
  · exact .inl h1
  · exact .inr ⟨g, cap, cur, h1, by omega, h2⟩
theorem ownBlock_ge {w : World} {base : Nat} {v : Value} {l : List Spo} (h : OwnS w base v l) : ∀ j, v.ownBlock = some j → base ≤ j := fun j hj => by
  rcases h.2 with ⟨rfl, _⟩ | ⟨g, cap, cur, rfl, hb, _⟩
  · simp [Value.ownBlock] at hj
  · obtain rfl : g = j := by simpa [Value.ownBlock] using hj
    exact hb
theorem infoSt : (Try.prog.info? 32).map (fun i => (i.zero, i.size, i.bytes)) = some (some (.agg #[.int .i64 0, .int .i64 0, .int .i64 0, .int .i64 0, .int .i64 0]), 5, 40) := by kernel_rfl
namespace PCn
theorem SlS.news {w : World} {ad : Addr} {n : Nat} {l : List Spo} (h : SlS w (some ad) n l) : ∀ j u, (spvs l)[j]? = some u → w.cell? (ad.add j) = some u := fun j u hj => by
  obtain ⟨s, h1, h2⟩ := spvs_at hj
  have hl := PCl.get_lt h1
  obtain ⟨b, off, e, hb, hs⟩ := h.2 (by have := h.1; omega)
  cases e
  have h3 := hs _ s h1 _ u h2
  have hadd : (⟨b, off, none⟩ : Addr).add j = ⟨b, off + j, none⟩ := by unfold Addr.add; split <;> simp_all
  rw [hadd, show off + j = off + j / 5 * 5 + j % 5 by omega]; exact h3
set_option maxRecDepth 100000 in
set_option maxHeartbeats 2000000 in
theorem cloneA {ad : Addr} {n cap : Nat} {l : List Spo} (w : World) (h : SlS w (some ad) n l) (hi : n ≤ 1000000) :
    Calls Try.prog 16 #[.slice (some ad) n cap] w fun e w' => ∃ v, e = .returned v ∧ OwnS w' w.heap.size v l ∧ Below w.heap.size w w' := by
  have H := Lib.hid h
  clear h
  obtain ⟨i0, hi0, hz0, hz1, hz2⟩ := info_parts infoSt
  have HZ := Lib.hid hz0; have HZ1 := Lib.hid hz1; have HZ2 := Lib.hid hz2; have HI := Lib.hid hi0
  clear hz0 hz1 hz2 hi0
  have qT : ∀ (w : World) (a : Option Addr) (n c n' c' : Nat), (binOp .eql 22 (.slice a n c) (.slice none n' c')).run Try.prog w = .ok (.bool a.isNone) w := fun w a n c n' c' => Lib.run_eql_slice_nil w _ _ a n c n' c' Try.underlying22
  go_enter Try.func16, Try.ntmps16
  go_wp2_with (at_builtin; refine wpList_append_own _ rfl (.tmp 5) (.tmp 6) 22 rfl w.heap.size 32 i0 (.agg #[.int .i64 0, .int .i64 0, .int .i64 0, .int .i64 0, .int .i64 0]) 5 40 Try.underlying22 HI.out HZ.out HZ1.out HZ2.out rfl (by decide) (.slice (some ⟨w.heap.size, 0, none⟩) 0 0) 0 [] rfl ⟨rfl, .inr ⟨_, 0, #[], rfl, Nat.le_refl _, World.alloc_heap_new w _, Nat.le_refl _, by unfold maxLen; omega, rfl, rfl⟩⟩ ad n cap (spvs l) rfl (by rw [spvs_len, H.out.1]) (SlS.news (H.out.step ((Below.refl _ _).alloc (Nat.le_refl _) _))) spvs_one (by unfold maxLen; omega) (by omega) (by simp) ?_; intro v' w1 hown hgrow hnil)
  go_ret
  refine ⟨v', rfl, ?_, ?_⟩
  · have h1 := H.out.1
    unfold OwnS
    rw [h1]
    simpa using hown
  · exact ((Below.refl _ _).alloc (Nat.le_refl _) _).grown hgrow (by simp) fun k e => by cases e; exact Nat.le_refl _
set_option maxRecDepth 100000 in
set_option maxHeartbeats 2000000 in
theorem clone0 (n cap : Nat) (w : World) : Calls Try.prog 16 #[.slice none n cap] w fun e w' => e = .returned (.slice none 0 0) ∧ Below w.heap.size w w' := by
  have qT : ∀ (w : World) (a : Option Addr) (n c n' c' : Nat), (binOp .eql 22 (.slice a n c) (.slice none n' c')).run Try.prog w = .ok (.bool a.isNone) w := fun w a n c n' c' => Lib.run_eql_slice_nil w _ _ a n c n' c' Try.underlying22
  go_enter Try.func16, Try.ntmps16
  go_wp2
  go_ret
  exact ⟨rfl, Below.refl _ _⟩
theorem cloneC {A : Option Addr} {n : Nat} (cap : Nat) {l : List Spo} (w : World) (h : SlS w A n l) (hi : n ≤ 1000000) :
    Calls Try.prog 16 #[.slice A n cap] w fun e w' => ∃ v, e = .returned v ∧ OwnS w' w.heap.size v l ∧ Below w.heap.size w w' := by
  cases A with
  | some ad => exact cloneA w h hi
  | none =>
    refine (clone0 n cap w).mono fun e w' ⟨he, hS⟩ => ⟨_, he, ?_, hS⟩
    have : l = [] := by
      rcases Nat.eq_zero_or_pos n with h0 | h0
      · exact List.eq_nil_of_length_eq_zero (by rw [h.1]; exact h0)
      · obtain ⟨_, _, e, _⟩ := h.2 h0; cases e
    subst this
    exact OwnS.nil _ _
end PCn
end Go.Proofs.Ytbbiefgmlklafaa
