/- Spots that are the same; the document's Same: the walk. Condition: the slices' cells are as told. -/
import Derived.Test.YtbbiefgmlklafaaPCn
import Derived.Laws.StructEq
namespace Go.Proofs.Ytbbiefgmlklafaa
set_option linter.unusedVariables false
set_option linter.unusedSimpArgs false
open Go.RowKit Go.NP
deriving instance DecidableEq for Spo
theorem Spo.ext' {a b : Spo} (h1 : a.side = b.side) (h2 : a.at_ = b.at_) (h3 : a.p.x = b.p.x) (h4 : a.p.y = b.p.y) (h5 : a.p.z = b.p.z) : a = b := by
  obtain ⟨s, t, ⟨x, y, z⟩⟩ := a
  obtain ⟨s', t', ⟨x', y', z'⟩⟩ := b
  simp only at h1 h2 h3 h4 h5
  subst h1; subst h2; subst h3; subst h4; subst h5; rfl
section
variable {P : Program} {o : Oper} {a : Act} {u : World} {op : BinOp} {t t2 : TypeId} {x y : Operand} {xs ys : Array Value} {v : Value}
theorem run_bin_agg (ho : o.op = .binOp op t x y t2) (hx : a.eval x = .agg xs) (hy : a.eval y = .agg ys) (hm : P.eqGuardType P.depth t = false) (h : (binOp op t (.agg xs) (.agg ys)).run P u = .ok v u) : (execOp a.eval o).run P u = .ok (.value v) u := by
  unfold execOp
  simp only [ho, hx, hy, Sem.run_bind, Sem.run_pure, run_eqGuard_agg u op t x y xs ys hm, h, Result.andThen_ok]
end
theorem guardSt : Try.prog.eqGuardType Try.prog.depth 32 = false := by kernel_rfl
theorem spotEql (a b : Spo) (w : World) : (binOp .eql 32 (.agg #[.int .i64 a.side, .int .i64 a.at_, .int .i64 a.p.x, .int .i64 a.p.y, .int .i64 a.p.z]) (.agg #[.int .i64 b.side, .int .i64 b.at_, .int .i64 b.p.x, .int .i64 b.p.y, .int .i64 b.p.z])).run Try.prog w = .ok (.bool (decide (a = b))) w := by
  have u3 := Try.underlying3; have a3 := Try.isAgg3; have z3 := Try.sizeOf3
  have u2 := Try.underlying2; have a2 := Try.isAgg2; have z2 := Try.sizeOf2
  have hS : Try.prog.underlying 32 = some (.struct (Try.prog.fieldsOf 32)) := by kernel_rfl
  have hp : Try.prog.stoodInHeld 32 = false := by kernel_rfl
  rw [run_eql_struct, show (10000 : Nat) = 9999 + 1 from rfl, run_equalIn_agg w 9999 32 _ _ hS hp]
  simp only [Program.fieldsOf, Try.underlying32]
  go_simp
  by_cases e : a = b
  · subst e; simp
  · rw [decide_eq_false e]
    repeat' split
    all_goals first | rfl | exact absurd (Spo.ext' (by assumption) (by assumption) (by assumption) (by assumption) (by assumption)) e
theorem spotNeq (a b : Spo) (w : World) : (binOp .neq 32 (.agg #[.int .i64 a.side, .int .i64 a.at_, .int .i64 a.p.x, .int .i64 a.p.y, .int .i64 a.p.z]) (.agg #[.int .i64 b.side, .int .i64 b.at_, .int .i64 b.p.x, .int .i64 b.p.y, .int .i64 b.p.z])).run Try.prog w = .ok (.bool (!decide (a = b))) w := by
  have u3 := Try.underlying3; have a3 := Try.isAgg3; have z3 := Try.sizeOf3
  have u2 := Try.underlying2; have a2 := Try.isAgg2; have z2 := Try.sizeOf2
  have hS : Try.prog.underlying 32 = some (.struct (Try.prog.fieldsOf 32)) := by kernel_rfl
  have hp : Try.prog.stoodInHeld 32 = false := by kernel_rfl
  rw [run_neq_struct, show (10000 : Nat) = 9999 + 1 from rfl, run_equalIn_agg w 9999 32 _ _ hS hp]
  simp only [Program.fieldsOf, Try.underlying32]
  go_simp
  by_cases e : a = b
  · subst e; simp
  · rw [decide_eq_false e]
    repeat' split
    all_goals first | rfl | exact absurd (Spo.ext' (by assumption) (by assumption) (by assumption) (by assumption) (by assumption)) e
namespace PSa
theorem take_eq {α : Type} {l m : List α} {k : Nat} {x y : α} (h : l.take k = m.take k) (hx : l[k]? = some x) (hy : m[k]? = some y) : l.take (k + 1) = m.take (k + 1) ↔ x = y := by
  rw [PGr.take_snoc hx, PGr.take_snoc hy, h]
  constructor
  · intro e; have := List.append_cancel_left e; simpa using this
  · intro e; rw [e]
set_option maxRecDepth 100000 in
set_option maxHeartbeats 2000000 in
theorem sameN {A B : Option Addr} {n m c d : Nat} (h : n ≠ m) (w : World) : RetB Try.prog 9 #[.slice A n c, .slice B m d] w (.bool false) := by
  have e0 : ((n : Int) != (m : Int)) = true := by simp; omega
  unfold RetB
  go_enter Try.func9, Try.ntmps9
  go_wp2
  go_ret
  exact ⟨rfl, Below.refl _ _⟩
set_option maxRecDepth 100000 in
set_option maxHeartbeats 2000000 in
theorem sameE {A B : Option Addr} {n c d : Nat} {l m : List Spo} {r : Bool} (w : World) (hl : SlS w A n l) (hm : SlS w B n m) (hi : n ≤ 1000000) (hr : r = decide (l = m)) : RetB Try.prog 9 #[.slice A n c, .slice B n d] w (.bool r) := by
  have HL := Lib.hid hl; have HM := Lib.hid hm
  have e0 : ((n : Int) != (n : Int)) = false := by simp
  have HR := Lib.hid hr
  clear hl hm hr
  unfold RetB
  go_enter Try.func9, Try.ntmps9
  go_wp2
  go_loopw [5] (fun i wr => ∃ k : Nat, k ≤ n ∧ i = .int .i64 k ∧ l.take k = m.take k ∧ Below w.heap.size w wr) (fun i _ => n - (intOf i).toNat)
  case atStart => exact ⟨0, Nat.zero_le _, rfl, rfl, Below.refl _ _⟩
  case round =>
    obtain ⟨k, hk, rfl, htk, hW⟩ := hrel
    by_cases hlt : k < n
    · obtain ⟨s, hs⟩ : ∃ s, l[k]? = some s := ⟨_, List.getElem?_eq_getElem (by rw [HL.out.1]; exact hlt)⟩
      obtain ⟨t, ht⟩ : ∃ t, m[k]? = some t := ⟨_, List.getElem?_eq_getElem (by rw [HM.out.1]; exact hlt)⟩
      obtain ⟨b, off, rfl, hb, hsl⟩ := HL.out.2 (by omega)
      obtain ⟨b2, off2, rfl, hb2, hsm⟩ := HM.out.2 (by omega)
      have hsz := hW.size
      have at1 := Lib.hid (hsl.step hb hW k s hs)
      have at2 := Lib.hid (hsm.step hb2 hW k t ht)
      have hst := take_eq htk hs ht
      have HST := Lib.hid hst; have HTK := Lib.hid htk
      have HNO := Lib.hid (fun e : ¬ s = t => show r = false from HR.out.trans <| decide_eq_false fun e' => e (by subst e'; rw [hs] at ht; exact Option.some.inj ht))
      have t1 : decide ((k : Int) < (n : Int)) = true := by simpa using hlt
      clear hs ht hst htk hsl hsm
      iterate 4 go_step
      iterate 4 (with_reducible refine wpL_val (v := ?_) ?_ ?_ ?_; rotate_left; (· kernel_rfl); (· go_simp; try with_reducible rfl); conv => arg 5; simp only [Act.put, List.setIfInBounds_toArray, List.set_cons_zero, List.set_cons_succ])
      refine wpList_nil ?_
      iterate 9 go_step
      refine wp_region_ph [(9, .free [])] (by kernel_rfl) (by kernel_rfl) ?_
      refine Ph.belowd ?_
      simp only [List.drop_succ_cons, List.drop_zero, List.take_succ_cons, List.take_zero, Nat.reduceSub, Nat.sub_zero]
      iterate 3 (refine SeqO.val (v := ?_) (by rfl) (by rfl) (fun w1 hS => ?_) ?_; rotate_left; (· obtain ⟨hc, hcf⟩ := bcell hS; go_simp; try with_reducible rfl); simp only [Act.put, List.setIfInBounds_toArray, List.set_cons_zero, List.set_cons_succ])
      refine SeqO.at (l := [.int .i64 s.side, .int .i64 s.at_, .int .i64 s.p.x, .int .i64 s.p.y, .int .i64 s.p.z]) (by rfl) (by rfl) (by omega : b < wr.heap.size) at1.out Try.underlying32 (by rfl) (by kernel_rfl) (by rfl) (by rfl) ?_
      simp only [Act.put, List.setIfInBounds_toArray, List.set_cons_zero, List.set_cons_succ]
      iterate 3 (refine SeqO.val (v := ?_) (by rfl) (by rfl) (fun w1 hS => ?_) ?_; rotate_left; (· obtain ⟨hc, hcf⟩ := bcell hS; go_simp; try with_reducible rfl); simp only [Act.put, List.setIfInBounds_toArray, List.set_cons_zero, List.set_cons_succ])
      refine SeqO.at (l := [.int .i64 t.side, .int .i64 t.at_, .int .i64 t.p.x, .int .i64 t.p.y, .int .i64 t.p.z]) (by rfl) (by rfl) (by omega : b2 < wr.heap.size) at2.out Try.underlying32 (by rfl) (by kernel_rfl) (by rfl) (by rfl) ?_
      simp only [Act.put, List.setIfInBounds_toArray, List.set_cons_zero, List.set_cons_succ]
      refine SeqO.val (v := .bool (!decide (s = t))) (by rfl) (by rfl) (fun w1 hS => ?_) ?_
      · skip
        exact run_bin_agg (by rfl) (by rfl) (by rfl) guardSt (spotNeq s t w1)
      simp only [Act.put, List.setIfInBounds_toArray, List.set_cons_zero, List.set_cons_succ]
      refine SeqO.nil0 fun w3 hS3 => ?_
      refine Ph.last ?_
      simp only [List.drop_succ_cons, List.drop_zero, List.take_succ_cons, List.take_zero, Nat.reduceSub, Nat.sub_zero]
      have hW := hW.trans (hS3.mono hW.size)
      refine wpList_nil ?_
      by_cases e : s = t
      · rw [decide_eq_true e]
        have hst := HST.out.2 e
        clear HNO HST HTK
        go_wp2
        exact ⟨⟨k + 1, by omega, by simp, hst, hW⟩, by simp [intOf]; omega⟩
      · rw [decide_eq_false e]
        have hr := HNO.out e
        clear HNO HST HTK HR
        subst hr
        go_wp2
        go_ret
        exact ⟨rfl, hW⟩
    · have hkn : k = n := by omega
      subst hkn
      have t1 : decide ((k : Int) < (k : Int)) = false := by simp
      have hE : r = true := HR.out.trans <| decide_eq_true (by
        have e1 := HL.out.1; have e2 := HM.out.1
        rw [List.take_of_length_le (by omega), List.take_of_length_le (by omega)] at htk
        exact htk)
      clear HR
      subst hE
      go_wp2
      go_ret
      exact ⟨rfl, hW⟩
theorem sameC {A B : Option Addr} {n m c d : Nat} {l k : List Spo} (w : World) (hl : SlS w A n l) (hk : SlS w B m k) (hi : n ≤ 1000000) : RetB Try.prog 9 #[.slice A n c, .slice B m d] w (.bool (decide (l = k))) := by
  by_cases e : n = m
  · subst e; exact sameE w hl hk hi rfl
  · rw [decide_eq_false (fun e' => e (by rw [← hl.1, ← hk.1, e']))]
    exact sameN e w
end PSa
end Go.Proofs.Ytbbiefgmlklafaa
