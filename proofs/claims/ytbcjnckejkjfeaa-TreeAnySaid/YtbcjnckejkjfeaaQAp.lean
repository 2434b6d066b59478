/- Pairs appended to one of several lists of one's own, the others staying: a law of lists of operations. Condition: the slice's cells are as told. -/
import Derived.Test.YtbcjnckejkjfeaaQSl
namespace Go.Proofs.Ytbcjnckejkjfeaa
set_option linter.unusedVariables false
set_option linter.unusedSimpArgs false
open Go.RowKit Go.NP
/-- Where the appended list lies: where it lay, or in a new block. -/
theorem append_where {P : Program} {w : World} (base : Nat) (t ty e : TypeId) (i : TypeInfo) (z : Value) (size bytes : Nat) (ht : P.underlying t = some (.slice e)) (hi : P.info? e = some i) (hz : i.zero = some z)
    (hsize : i.size = size) (hby : i.bytes = bytes) (v : Value) (n : Nat) (xs : List Value) (hown : w.ownsRow base e size v n xs)
    (a : Addr) (m c : Nat) (news : List Value) (hl : news.length = m * size) (hnews : ∀ j u, news[j]? = some u → w.cell? (a.add j) = some u) (h1 : ∀ u ∈ news, u.oneCell' = true)
    (h63 : n + m ≤ maxLen) (hbytes : (n + m) * bytes ≤ 140737488355328) {v' : Value} {w' : World} (hr : (Builtin.append_ #[t, t] ty #[v, .slice (some a) m c]).run P w = .ok v' w') :
    v'.ownBlock = v.ownBlock ∨ v'.ownBlock = some w.heap.size := by
  subst hsize
  subst hby
  have hsmall : n + m ≤ 9223372036854775807 := by simp only [maxLen] at h63; omega
  rcases hown.2 with ⟨rfl, rfl⟩ | ⟨g, cap, cur, rfl, hbg, hg, hnc, hcm, hcs, htake⟩
  · by_cases hm : m = 0
    · subst hm
      have hn : news = [] := List.eq_nil_of_length_eq_zero (by simpa using hl)
      subst hn
      have h : (Builtin.append_ #[t, t] ty #[.slice none 0 0, .slice (some a) 0 c]).run P w = .ok (.slice none 0 0) w := by
        simp [Builtin.append_, run_underlying ht, sizeOf, typeInfo, hi, Builtin.lenOf, Builtin.firstCells, loadCells, loadCellsFrom]
      rw [h] at hr
      cases hr
      exact .inl rfl
    · rw [run_append_nil (P := P) w t ty e i z ht hi hz a m c news hl hnews (by omega) (by omega) (by have hb := hbytes; simp only [Nat.zero_add] at hb; omega)] at hr
      cases hr
      exact .inr rfl
  · by_cases hroom : n + m ≤ cap
    · have hfit : n * i.size + news.length ≤ cur.size := by rw [hl, hcs, ← Nat.add_mul]; exact Nat.mul_le_mul_right _ hroom
      rw [run_append_room (P := P) w t ty e i ht hi g n cap cur hg a m c news hl hnews h1 hroom hfit] at hr
      cases hr
      exact .inl rfl
    · have holds : ∀ j u, xs[j]? = some u → w.cell? ((⟨g, 0, none⟩ : Addr).add j) = some u := hown.cells (g := g) rfl
      rw [run_append_grow (P := P) w t ty e i z ht hi hz ⟨g, 0, none⟩ n cap xs hown.1 holds a m c news hl hnews (by omega) (by omega) (growslice_fits (by omega) hbytes)] at hr
      cases hr
      exact .inr rfl
/-- Two lists of one's own do not lie in the same block. -/
def Apart (u v : Value) : Prop := ∀ k, u.ownBlock = some k → v.ownBlock ≠ some k
theorem Apart.symm {u v : Value} (h : Apart u v) : Apart v u := fun k hv hu => h k hu hv
theorem Apart.nil (u : Value) : Apart (.slice none 0 0) u := fun k h => by simp [Value.ownBlock] at h
theorem OwnS.lt {w : World} {base : Nat} {v : Value} {l : List Pr} (h : OwnS w base v l) : ∀ k, v.ownBlock = some k → k < w.heap.size := fun k hk => by
  rcases h.2 with ⟨rfl, _⟩ | ⟨g, cap, cur, rfl, hb, hg, _⟩
  · simp [Value.ownBlock] at hk
  · obtain rfl : g = k := by simpa [Value.ownBlock] using hk
    exact (Array.getElem?_eq_some_iff.1 hg).1
theorem OwnS.keep {w w' : World} {base : Nat} {u v : Value} {l : List Pr} (h : OwnS w base u l) (hg : w.grownBy w' v.ownBlock) (ha : Apart u v) : OwnS w' base u l := by
  refine ⟨h.1, ?_⟩
  rcases h.2 with h1 | ⟨g, cap, cur, rfl, hb, hg', h2⟩
  · exact .inl h1
  · refine .inr ⟨g, cap, cur, rfl, hb, ?_, h2⟩
    rw [hg.block g (Array.getElem?_eq_some_iff.1 hg').1 (fun e => ha g rfl e.symm)]
    exact hg'
/-- All of a slice appended: those that lie elsewhere stay, and stay apart. -/
theorem wpL_allK {ops : Array Oper} {r : List Oper} {o : Oper} {a : Act} {Q : Exit → Act → World → Prop} {w : World} {base : Nat} {v : Value} {m l : List Pr} {A : Option Addr} {n cap : Nat} (hgd : Region.wanted o (yielded ops a.tmps) = true) (s x : Operand)
    (ho : o.op = .call { callee := .builtin .append, args := #[s, x], argTypes := #[39, 39] }) (hs : a.eval s = v) (hown : OwnS w base v m) (hx : a.eval x = .slice A n cap) (hl : SlC w A n cap l) (hm : m.length ≤ 100000) (hn : n ≤ 100000) (hb : base ≤ w.heap.size)
    (h : ∀ v' w', OwnS w' base v' (m ++ l) → (∀ w0, Below base w0 w → Below base w0 w') → (∀ u k, OwnS w base u k → Apart u v → OwnS w' base u k ∧ Apart u v') → wpList Try.prog ops Q r (a.put o.dst v') w') : wpList Try.prog ops Q (o :: r) a w := by
  obtain ⟨i0, hi0, hz0, hz1, hz2⟩ := info_parts infoPa
  have hll := hl.1.1
  cases A with
  | some ad =>
    obtain ⟨v', w', hr, h2, h3, h4⟩ := run_append_own (P := Try.prog) w base 39 o.type 64 i0 (.agg #[.int .i64 0, .int .i64 0]) 2 16 Try.underlying39 hi0 hz0 hz1 hz2 rfl (by decide) v m.length (prvs m) hown ad n cap (prvs l) (by rw [prvs_len, hll]) (SlS.news hl.1) prvs_one (by unfold maxLen; omega) (by omega) hb
    have hwh := append_where base 39 o.type 64 i0 (.agg #[.int .i64 0, .int .i64 0]) 2 16 Try.underlying39 hi0 hz0 hz1 hz2 v m.length (prvs m) hown ad n cap (prvs l) (by rw [prvs_len, hll]) (SlS.news hl.1) prvs_one (by unfold maxLen; omega) (by omega) hr
    refine wpL_go (v := v') (w' := w') hgd ?_ (h v' w' ?_ (fun w0 hB => hB.grown h3 hb fun k hk => ownBlock_ge hown k hk) fun u k hu ha => ⟨hu.keep h3 ha, fun j hj hv => ?_⟩)
    · unfold execOp
      simp only [ho, resolve, invoke, builtin, Sem.run_bind, Sem.run_pure, Result.andThen_ok, List.map_toArray, List.map_cons, List.map_nil, hs, hx, hr]
    · unfold OwnS
      rw [prvs_append, List.length_append, hll]
      exact h2
    · rcases hwh with e | e
      · rw [e] at hv; exact ha j hj hv
      · rw [e] at hv
        have := hu.lt j hj
        have := Option.some.inj hv
        omega
  | none =>
    have hc := hl.2 rfl
    have h0 : l = [] := by
      rcases Nat.eq_zero_or_pos n with h0 | h0
      · exact List.eq_nil_of_length_eq_zero (by rw [hll]; exact h0)
      · obtain ⟨_, _, e, _⟩ := hl.1.2 h0; cases e
    subst h0
    have hn0 : n = 0 := hll.symm
    subst hc; subst hn0
    have hrun := run_append_owned_none (P := Try.prog) (w := w) base 39 o.type 64 i0 2 Try.underlying39 hi0 v m.length (prvs m) hown
    refine wpL_go (v := v) (w' := w) hgd ?_ (h v w (by rw [List.append_nil]; exact hown) (fun w0 hB => hB) fun u k hu ha => ⟨hu, ha⟩)
    unfold execOp
    simp [ho, resolve, invoke, builtin, hs, hx, hrun, Result.andThen]
theorem one_sl {w : World} {g : Nat} {p : Pr} (h : Box w g [.int .i64 p.a, .int .i64 p.b] 64) : SlC w (some ⟨g, 0, none⟩) 1 1 [p] := by
  refine ⟨⟨rfl, fun _ => ⟨g, 0, rfl, h.lt, fun k t hk j v hv => ?_⟩⟩, fun e => by cases e⟩
  have h1 : k < 1 := get_lt hk
  obtain rfl : k = 0 := by omega
  obtain rfl : p = t := by simpa using hk
  have := h.cell j
  rw [show 0 + 0 * 2 + j = j by omega, this]; exact hv
end Go.Proofs.Ytbcjnckejkjfeaa
