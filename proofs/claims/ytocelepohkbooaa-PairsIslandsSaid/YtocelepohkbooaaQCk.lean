/- Are pairs fine, are they in order, are they the same, is one among them: the walks. Condition: the slices' cells are as told. -/
import Derived.Test.YtocelepohkbooaaQFn
import Derived.Laws.StructEq
namespace Go.Proofs.Ytocelepohkbooaa
set_option linter.unusedVariables false
set_option linter.unusedSimpArgs false
open Go.RowKit Go.NP
section
variable {P : Program} {o : Oper} {a : Act} {u : World} {op : BinOp} {t t2 : TypeId} {x y : Operand} {xs ys : Array Value} {v : Value}
theorem run_bin_agg (ho : o.op = .binOp op t x y t2) (hx : a.eval x = .agg xs) (hy : a.eval y = .agg ys) (hm : P.eqGuardType P.depth t = false) (h : (binOp op t (.agg xs) (.agg ys)).run P u = .ok v u) : (execOp a.eval o).run P u = .ok (.value v) u := by
  unfold execOp
  simp only [ho, hx, hy, Sem.run_bind, Sem.run_pure, run_eqGuard_agg u op t x y xs ys hm, h, Result.andThen_ok]
end
theorem guardPa : Try.prog.eqGuardType Try.prog.depth 39 = false := by kernel_rfl
theorem prEql (p q : Pr) (w : World) : (binOp .eql 39 (.agg #[.int .i64 p.a, .int .i64 p.b]) (.agg #[.int .i64 q.a, .int .i64 q.b])).run Try.prog w = .ok (.bool (decide (p = q))) w := by
  have u3 := Try.underlying3; have a3 := Try.isAgg3; have z3 := Try.sizeOf3
  have hS : Try.prog.underlying 39 = some (.struct (Try.prog.fieldsOf 39)) := by kernel_rfl
  have hp : Try.prog.stoodInHeld 39 = false := by kernel_rfl
  rw [run_eql_struct, show (10000 : Nat) = 9999 + 1 from rfl, run_equalIn_agg w 9999 39 _ _ hS hp]
  simp only [Program.fieldsOf, Try.underlying39]
  go_simp
  by_cases e : p = q
  · subst e; simp
  · rw [decide_eq_false e]
    repeat' split
    all_goals first | rfl | exact absurd (by obtain ⟨a, b⟩ := p; obtain ⟨c, d⟩ := q; simp_all) e
theorem prNeq (p q : Pr) (w : World) : (binOp .neq 39 (.agg #[.int .i64 p.a, .int .i64 p.b]) (.agg #[.int .i64 q.a, .int .i64 q.b])).run Try.prog w = .ok (.bool (!decide (p = q))) w := by
  have u3 := Try.underlying3; have a3 := Try.isAgg3; have z3 := Try.sizeOf3
  have hS : Try.prog.underlying 39 = some (.struct (Try.prog.fieldsOf 39)) := by kernel_rfl
  have hp : Try.prog.stoodInHeld 39 = false := by kernel_rfl
  rw [run_neq_struct, show (10000 : Nat) = 9999 + 1 from rfl, run_equalIn_agg w 9999 39 _ _ hS hp]
  simp only [Program.fieldsOf, Try.underlying39]
  go_simp
  by_cases e : p = q
  · subst e; simp
  · rw [decide_eq_false e]
    repeat' split
    all_goals first | rfl | exact absurd (by obtain ⟨a, b⟩ := p; obtain ⟨c, d⟩ := q; simp_all) e
namespace QCk
theorem cf37 (args : Array Value) (w1 : World) : (callFunc 37 args).run Try.prog w1 = .ok (.enter 37 args) w1 := enters Try.func37 (by kernel_rfl) (by kernel_rfl) args w1
theorem cf41 (args : Array Value) (w1 : World) : (callFunc 41 args).run Try.prog w1 = .ok (.enter 41 args) w1 := enters Try.func41 (by kernel_rfl) (by kernel_rfl) args w1
theorem cf24 (args : Array Value) (w1 : World) : (callFunc 24 args).run Try.prog w1 = .ok (.enter 24 args) w1 := enters Try.func24 (by kernel_rfl) (by kernel_rfl) args w1
theorem cf28 (args : Array Value) (w1 : World) : (callFunc 28 args).run Try.prog w1 = .ok (.enter 28 args) w1 := enters Try.func28 (by kernel_rfl) (by kernel_rfl) args w1
def fineS (l : List Pr) : Int := if 65536 < l.length then 3 else if ∀ p ∈ l, okP p then 0 else 2
/-- Each one ahead of all behind it. -/
def risen (l : List Pr) : Prop := l.Pairwise ltP
theorem ltP_trans {p q r : Pr} (h : ltP p q) (k : ltP q r) : ltP p r := by unfold ltP at *; omega
theorem fineS_ok {l : List Pr} (h : fineS l = 0) : l.length ≤ 65536 ∧ ∀ p ∈ l, okP p := by
  unfold fineS at h
  split at h
  · exact absurd h (by decide)
  · split at h
    · exact ⟨by omega, by assumption⟩
    · exact absurd h (by decide)
instance (l : List Pr) : Decidable (risen l) := by unfold risen; infer_instance
def checkS (l : List Pr) : Int := if fineS l = 0 then (if risen l then 0 else 2) else fineS l
theorem risen_snoc {l : List Pr} {k : Nat} {p q : Pr} (hp : l[k - 1]? = some p) (hq : l[k]? = some q) (hk : 1 ≤ k) (h : risen (l.take k)) (hpq : ltP p q) : risen (l.take (k + 1)) := by
  rw [take_snoc hq]
  have e : l.take k = l.take (k - 1) ++ [p] := by have := take_snoc hp; rwa [Nat.sub_add_cancel hk] at this
  refine List.pairwise_append.2 ⟨h, List.pairwise_singleton _ _, fun x hx y hy => ?_⟩
  obtain rfl := List.mem_singleton.1 hy
  rw [e] at hx
  rcases List.mem_append.1 hx with hx | hx
  · have h' := h; unfold risen at h'; rw [e] at h'
    exact ltP_trans ((List.pairwise_append.1 h').2.2 x hx p (List.mem_singleton.2 rfl)) hpq
  · obtain rfl := List.mem_singleton.1 hx; exact hpq
theorem risen_bad {l : List Pr} {k : Nat} {p q : Pr} (hp : l[k - 1]? = some p) (hq : l[k]? = some q) (hk : 1 ≤ k) (hpq : ¬ ltP p q) : ¬ risen l := fun h => by
  have h1 := get_lt hp; have h2 := get_lt hq
  have := List.pairwise_iff_getElem.1 h (k - 1) k h1 h2 (by omega)
  rw [List.getElem?_eq_getElem h1] at hp; rw [List.getElem?_eq_getElem h2] at hq
  rw [Option.some.inj hp, Option.some.inj hq] at this
  exact hpq this
set_option maxRecDepth 100000 in
set_option maxHeartbeats 2000000 in
theorem rfineC {A : Option Addr} {n : Nat} (cap : Nat) {l : List Pr} (w : World) (h : SlS w A n l) : RetB Try.prog 26 #[.slice A n cap] w (.int .i64 (fineS l)) := by
  have hln := h.1
  by_cases hn : 65536 < n
  · rw [show fineS l = 3 from if_pos (by omega)]
    have t : decide ((n : Int) > 65536) = true := decide_eq_true (by omega)
    unfold RetB
    go_enter Try.func26, Try.ntmps26
    go_wp2
    go_ret
    exact ⟨rfl, Below.refl _ _⟩
  have t : decide ((n : Int) > 65536) = false := decide_eq_false (by omega)
  obtain ⟨r, hr⟩ : ∃ r, fineS l = r := ⟨_, rfl⟩
  have HR := Lib.hid (show (if ∀ p ∈ l, okP p then 0 else 2) = r from by rw [← hr]; unfold fineS; rw [if_neg (show ¬ 65536 < l.length by omega)])
  have H := Lib.hid h
  rw [hr]
  clear h hr
  unfold RetB
  go_enter Try.func26, Try.ntmps26
  go_wp2_with fail
  go_loopw [3] (fun i wr => ∃ k : Nat, k ≤ n ∧ i = .int .i64 k ∧ (∀ p ∈ l.take k, okP p) ∧ Below w.heap.size w wr) (fun i _ => n - (intOf i).toNat)
  case atStart => exact ⟨0, Nat.zero_le _, rfl, fun p hp => (by simp at hp), Below.refl _ _⟩
  case round =>
    obtain ⟨k, hk, rfl, hok, hW⟩ := hrel
    by_cases hlt : k < n
    · obtain ⟨p, hp⟩ : ∃ p, l[k]? = some p := ⟨_, List.getElem?_eq_getElem (by omega)⟩
      obtain ⟨b, off, rfl, hb, hs⟩ := H.out.2 (by omega)
      have at1 := hs.step hb hW k p hp
      have z0 := at1 0 _ rfl; have z1 := at1 1 _ rfl
      simp only [Nat.add_zero] at z0
      have t1 : decide ((k : Int) < (n : Int)) = true := by simpa using hlt
      have HTK := Lib.hid (take_snoc hp); have HOK := Lib.hid hok; have HP := Lib.hid (List.mem_of_getElem? hp)
      clear hp hs at1 hok
      go_wp2_with fail
      refine (rmayC p _).mono ?_
      rintro e w1 ⟨rfl, hS⟩
      have hW := hW.trans (hS.mono hW.size)
      by_cases c : okP p
      · rw [decide_eq_true c]
        have hok : ∀ q ∈ l.take (k + 1), okP q := fun q hq => by
          rw [HTK.out] at hq
          rcases List.mem_append.1 hq with hq | hq
          · exact HOK.out q hq
          · obtain rfl := List.mem_singleton.1 hq; exact c
        have HO2 := Lib.hid hok
        clear HTK HOK HP c hok hS z0 z1
        go_wp2
        exact ⟨⟨k + 1, by omega, by simp, HO2.out, hW⟩, by simp [intOf]; omega⟩
      · rw [decide_eq_false c]
        have hr := HR.out
        rw [if_neg (fun h => c (h p HP.out))] at hr
        subst hr
        clear HTK HOK HP c hS z0 z1 HR
        go_wp2
        go_ret
        exact ⟨rfl, hW⟩
    · have t1 : decide ((k : Int) < (n : Int)) = false := by simpa using hlt
      have hr := HR.out
      rw [List.take_of_length_le (by omega)] at hok
      rw [if_pos hok] at hr
      clear HR hok
      subst hr
      go_wp2
      go_ret
      exact ⟨rfl, hW⟩
set_option maxRecDepth 100000 in
set_option maxHeartbeats 2000000 in
theorem fineC {A : Option Addr} {n : Nat} (cap : Nat) {l : List Pr} (w : World) (h : SlS w A n l) : RetB Try.prog 21 #[.slice A n cap] w (.int .i64 (fineS l)) := by
  have hln := h.1
  by_cases hn : 65536 < n
  · rw [show fineS l = 3 from if_pos (by omega)]
    have t : decide ((n : Int) > 65536) = true := decide_eq_true (by omega)
    unfold RetB
    go_enter Try.func21, Try.ntmps21
    go_wp2
    go_ret
    exact ⟨rfl, Below.refl _ _⟩
  have t : decide ((n : Int) > 65536) = false := decide_eq_false (by omega)
  obtain ⟨r, hr⟩ : ∃ r, fineS l = r := ⟨_, rfl⟩
  have HR := Lib.hid (show (if ∀ p ∈ l, okP p then 0 else 2) = r from by rw [← hr]; unfold fineS; rw [if_neg (show ¬ 65536 < l.length by omega)])
  have H := Lib.hid h
  rw [hr]
  clear h hr
  unfold RetB
  go_enter Try.func21, Try.ntmps21
  go_wp2_with fail
  go_loopw [10] (fun i wr => ∃ k : Nat, k ≤ n ∧ i = .int .i64 k ∧ (∀ p ∈ l.take k, okP p) ∧ Below w.heap.size w wr) (fun i _ => n - (intOf i).toNat)
  case atStart => exact ⟨0, Nat.zero_le _, rfl, fun p hp => (by simp at hp), Below.refl _ _⟩
  case round =>
    obtain ⟨k, hk, rfl, hok, hW⟩ := hrel
    by_cases hlt : k < n
    · obtain ⟨p, hp⟩ : ∃ p, l[k]? = some p := ⟨_, List.getElem?_eq_getElem (by omega)⟩
      obtain ⟨b, off, rfl, hb, hs⟩ := H.out.2 (by omega)
      have at1 := hs.step hb hW k p hp
      have z0 := at1 0 _ rfl; have z1 := at1 1 _ rfl
      simp only [Nat.add_zero] at z0
      have t1 : decide ((k : Int) < (n : Int)) = true := by simpa using hlt
      have HTK := Lib.hid (take_snoc hp); have HOK := Lib.hid hok; have HP := Lib.hid (List.mem_of_getElem? hp)
      clear hp hs at1 hok
      go_wp2_with fail
      refine (mayC p _).mono ?_
      rintro e w1 ⟨rfl, hS⟩
      have hW := (hW.alloc hW.size (.cells #[.int .i64 p.a, .int .i64 p.b] 39)).trans (hS.mono (by have := hW.size; simp; omega))
      by_cases c : okP p
      · rw [decide_eq_true c]
        have hok : ∀ q ∈ l.take (k + 1), okP q := fun q hq => by
          rw [HTK.out] at hq
          rcases List.mem_append.1 hq with hq | hq
          · exact HOK.out q hq
          · obtain rfl := List.mem_singleton.1 hq; exact c
        have HO2 := Lib.hid hok
        clear HTK HOK HP c hok hS z0 z1
        go_wp2
        exact ⟨⟨k + 1, by omega, by simp, HO2.out, hW⟩, by simp [intOf]; omega⟩
      · rw [decide_eq_false c]
        have hr := HR.out
        rw [if_neg (fun h => c (h p HP.out))] at hr
        subst hr
        clear HTK HOK HP c hS z0 z1 HR
        go_wp2
        go_ret
        exact ⟨rfl, hW⟩
    · have t1 : decide ((k : Int) < (n : Int)) = false := by simpa using hlt
      have hr := HR.out
      rw [List.take_of_length_le (by omega)] at hok
      rw [if_pos hok] at hr
      clear HR hok
      subst hr
      go_wp2
      go_ret
      exact ⟨rfl, hW⟩
end QCk
end Go.Proofs.Ytocelepohkbooaa
