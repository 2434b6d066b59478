/- A spot appended to a slice of spots of one's own: a law of lists of operations. No condition but the length. -/
import Derived.Test.YtbbiefgmlklafaaPCn
namespace Go.Proofs.Ytbbiefgmlklafaa
set_option linter.unusedVariables false
set_option linter.unusedSimpArgs false
open Go.RowKit Go.NP
theorem wpL_app {ops : Array Oper} {r : List Oper} {o : Oper} {a : Act} {Q : Exit → Act → World → Prop} {w : World} {base g : Nat} {v : Value} {l : List Spo} {t : Spo} (hgd : o.guard = none) (s x : Operand)
    (ho : o.op = .call { callee := .builtin .append, args := #[s, x], argTypes := #[22, 22] }) (hs : a.eval s = v) (hown : OwnS w base v l) (hx : a.eval x = .slice (some ⟨g, 0, none⟩) 1 1) (hat : At' w g 0 (spv t)) (hl : l.length ≤ 100000) (hb : base ≤ w.heap.size)
    (h : ∀ v' w', OwnS w' base v' (l ++ [t]) → (∀ w0, Below base w0 w → Below base w0 w') → wpList Try.prog ops Q r (a.put o.dst v') w') : wpList Try.prog ops Q (o :: r) a w := by
  obtain ⟨i0, hi0, hz0, hz1, hz2⟩ := info_parts infoSt
  refine wpList_append_own _ hgd s x 22 ho base 32 i0 (.agg #[.int .i64 0, .int .i64 0, .int .i64 0, .int .i64 0, .int .i64 0]) 5 40 Try.underlying22 hi0 hz0 hz1 hz2 rfl (by decide) v l.length (spvs l) hs hown ⟨g, 0, none⟩ 1 1 (spv t) hx rfl (fun j u hj => ?_) spv_one (by unfold maxLen; omega) (by omega) hb ?_
  · have := hat j u hj
    have hadd : (⟨g, 0, none⟩ : Addr).add j = ⟨g, 0 + j, none⟩ := by unfold Addr.add; split <;> simp_all
    rw [hadd]; exact this
  · intro v' w' h1 h2 _
    refine h v' w' ?_ fun w0 hB => hB.grown h2 hb fun k hk => ownBlock_ge hown k hk
    unfold OwnS
    rw [spvs_append, List.length_append]
    simpa [spvs] using h1
end Go.Proofs.Ytbbiefgmlklafaa
