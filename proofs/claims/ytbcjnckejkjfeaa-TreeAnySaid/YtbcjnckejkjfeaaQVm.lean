/- Maps by integers, their elements whatever values: looked up, written. No condition. -/
import Derived.Test.YtbcjnckejkjfeaaRegH
import Derived.Test.YtbcjnckejkjfeaaChecked
import Derived.Maps.Own
import Derived.Maps.OwnOps
import Derived.Maps.OwnSet
import Derived.Maps.Range
import Derived.Lib.SlKeysI
namespace Go.Proofs.Ytbcjnckejkjfeaa
set_option linter.unusedVariables false
set_option linter.unusedSimpArgs false
open Go.RowKit Go.NP Go.Maps
namespace QVm
/-- An integer that fits. -/
def wfI (n : Int) : Prop := (Lit.int .i64 n).wf = true
theorem wfI_small {n : Int} (h0 : -1000000 ≤ n) (h : n ≤ 1000000) : wfI n := by
  unfold wfI Lit.wf IntKind.min IntKind.max
  simp [IntKind.bits, IntKind.signed]
  omega
def RV : Value → Option (DataW Value × List MemPlace) := fun v => some (.held v, [])
def kl (n : Int) : Lit := .int .i64 n
theorem kyd : Keyed Try.prog 3 := int_keyed Try.underlying3
theorem keyK {n : Int} (h : wfI n) : keyOf Try.prog 3 (.int .i64 n) = some (kl n) := keyOf_int_mk Try.underlying3 h
theorem isKey (n : Int) : WideAt.IsKeyLit (kl n) := trivial
/-- A block that is a map from integers, of at most c entries. -/
structure VM (w : World) (b : Nat) (m : Int → Option Value) (c : Nat) : Prop where
  ex : ∃ D : DataW Value, w.ownsMap Try.prog 3 RV b c D ∧ ∀ n, wfI n → Maps.has D (kl n) = (m n).isSome ∧ ∀ v, m n = some v → ∀ z, D.atKey (kl n) z = .held v
theorem own_size {w : World} {b c : Nat} {D : DataW Value} (h : w.ownsMap Try.prog 3 RV b c D) : w.ownsMap Try.prog 3 RV b (Maps.size D) D := by
  obtain ⟨es, clock, hb, F, _, rfl⟩ := h
  exact ⟨es, clock, hb, F, by simp [Maps.size, length_sorted], rfl⟩
theorem VM.made (w : World) : VM (w.alloc (.map #[] 0)) w.heap.size (fun _ => none) 0 :=
  ⟨_, World.ownsMap_made _ _ _ _, fun n _ => ⟨rfl, fun v h => by cases h⟩⟩
theorem VM.lt {w : World} {b c : Nat} {m : Int → Option Value} (h : VM w b m c) : b < w.heap.size := by obtain ⟨D, hD, _⟩ := h; exact hD.lt
theorem VM.block {w w' : World} {b c : Nat} {m : Int → Option Value} (h : VM w b m c) (hb : w'.heap[b]? = w.heap[b]?) : VM w' b m c := by
  obtain ⟨D, ⟨es, clock, h1, r⟩, h2⟩ := h
  exact ⟨D, ⟨es, clock, hb.trans h1, r⟩, h2⟩
theorem VM.step {w w' : World} {b c : Nat} {m : Int → Option Value} (h : VM w b m c) (hS : Below w.heap.size w w') : VM w' b m c := h.block (hS.block b h.lt)
theorem VM.ext {w : World} {b c : Nat} {m m' : Int → Option Value} (h : VM w b m c) (he : ∀ n, wfI n → m n = m' n) : VM w b m' c := by
  obtain ⟨D, h1, h2⟩ := h
  exact ⟨D, h1, fun n hn => by rw [← he n hn]; exact h2 n hn⟩
theorem VM.mono {w : World} {b c c' : Nat} {m : Int → Option Value} (h : VM w b m c) (hc : c ≤ c') : VM w b m c' := by
  obtain ⟨D, h1, h2⟩ := h
  exact ⟨D, h1.mono hc, h2⟩
section
variable {w : World} {b c : Nat} {m : Int → Option Value} {n : Int} {T E : TypeId} {z : Value}
theorem VM.look (h : VM w b m c) (hn : wfI n) (hT : Try.prog.underlying T = some (.map 3 E)) (hz : (zeroValue E).run Try.prog w = .ok z w) :
    (Instr.lookup T (.map (some b)) (.int .i64 n) false).run Try.prog w = .ok ((m n).getD z) w := by
  obtain ⟨D, h1, h2⟩ := h
  obtain ⟨v, ps, hrun, hv⟩ := h1.lookup kyd hT hz (zd := .held z) (zp := []) rfl (keyK hn)
  obtain ⟨ha, hb⟩ := h2 n hn
  have hv' : DataW.held v = D.atKey (kl n) (.held z) := by simpa [RV] using congrArg (fun x => x.map Prod.fst) hv
  cases hm : m n with
  | some u =>
    rw [hb u hm] at hv'
    cases hv'
    exact hrun
  | none =>
    rw [hm] at ha
    rw [Maps.atKey_of_not_has ha] at hv'
    cases hv'
    exact hrun
theorem VM.look_ok (h : VM w b m c) (hn : wfI n) (hT : Try.prog.underlying T = some (.map 3 E)) (hz : (zeroValue E).run Try.prog w = .ok z w) :
    (Instr.lookup T (.map (some b)) (.int .i64 n) true).run Try.prog w = .ok (.tuple #[(m n).getD z, .bool (m n).isSome]) w := by
  obtain ⟨D, h1, h2⟩ := h
  obtain ⟨v, ps, hrun, hv⟩ := h1.look_ok kyd hT hz (zd := .held z) (zp := []) rfl (keyK hn)
  obtain ⟨ha, hb⟩ := h2 n hn
  have hv' : DataW.held v = D.atKey (kl n) (.held z) := by simpa [RV] using congrArg (fun x => x.map Prod.fst) hv
  rw [ha] at hrun
  cases hm : m n with
  | some u =>
    rw [hb u hm] at hv'
    rw [hm] at hrun
    cases hv'
    exact hrun
  | none =>
    rw [hm] at ha hrun
    rw [Maps.atKey_of_not_has ha] at hv'
    cases hv'
    exact hrun
/-- A map with one entry laid anew. -/
def updV (m : Int → Option Value) (n : Int) (v : Value) : Int → Option Value := fun k => if k = n then some v else m k
theorem VM.put (h : VM w b m c) (hn : wfI n) (hc : c < maxLen) (hT : Try.prog.underlying T = some (.map 3 E)) (v : Value) :
    ∃ w', (Instr.mapUpdate T (.map (some b)) (.int .i64 n) v).run Try.prog w = .ok () w' ∧ VM w' b (updV m n v) (if (m n).isSome then c else c + 1) ∧ w.mapTurned w' b := by
  obtain ⟨D, h1, h2⟩ := h
  have hle := h1.size_le
  obtain ⟨w', hrun, r1, r2⟩ := (own_size h1).store kyd hT (by omega) (d := .held v) (ps := []) (keyK hn) rfl
  have hk : Maps.IsMap D := h1.isMap
  refine ⟨w', hrun, ⟨_, (own_size r1).mono ?_, fun k hkw => ?_⟩, r2⟩
  · rw [Maps.size_put (h1.tidy kyd), (h2 n hn).1]
    split <;> omega
  · unfold updV
    by_cases e : k = n
    · subst e
      rw [if_pos rfl]
      exact ⟨Maps.has_put_same hk (isKey _) _, fun u hu z => by cases hu; exact Maps.atKey_put_same hk (isKey _) _ _⟩
    · have hne : kl k ≠ kl n := fun h => e (by injection h)
      rw [if_neg e]
      refine ⟨by rw [Maps.has_put_other hne]; exact (h2 k hkw).1, fun u hu z => ?_⟩
      rw [Maps.atKey_put_other hne]
      exact (h2 k hkw).2 u hu z
theorem wpL_put {o : Oper} {r : List Oper} {ops : Array Oper} {a : Act} {Q : Exit → Act → World → Prop} {x y mo : Operand} {v : Value} (hgd : o.guard = none) (ho : o.op = .mapUpdate T mo x y) (hm : a.eval mo = .map (some b)) (hx : a.eval x = .int .i64 n) (hy : a.eval y = v)
    (h : VM w b m c) (hn : wfI n) (hc : c < maxLen) (hT : Try.prog.underlying T = some (.map 3 E))
    (hK : ∀ w', VM w' b (updV m n v) (if (m n).isSome then c else c + 1) → w.mapTurned w' b → wpList Try.prog ops Q r (a.put o.dst undef) w') : wpList Try.prog ops Q (o :: r) a w := by
  refine wpList_plain hgd fun K' hK' => ?_
  obtain ⟨w', hrun, r1, r2⟩ := h.put hn hc hT v
  unfold Oper.wp
  simp [execOp, ho, hm, hx, hy, hrun, Result.andThen]
  exact hK' _ _ (hK w' r1 r2)
/-- The keys of a map, sorted: those of a rising list that holds them. -/
theorem VM.keys (h : VM w b m c) {L : List Int} (hL : L.Pairwise (· < ·)) (hm : ∀ x, x ∈ L ↔ wfI x ∧ (m x).isSome = true) :
    ∃ D : DataW Value, w.ownsMap Try.prog 3 RV b c D ∧ ∀ ss : List Int, ss.Perm (intKeys D) → ss.mergeSort leI = L ∧ ss.length = L.length := by
  obtain ⟨D, h1, h2⟩ := h
  refine ⟨D, h1, fun ss hss => ?_⟩
  have hwf := intKeys_wf h1 Try.underlying3
  obtain ⟨es, hD, hp, _⟩ := h1.entries kyd
  obtain ⟨es', hD', hko⟩ := h1.keysOf
  obtain rfl : es = es' := by rw [hD] at hD'; simpa using hD'
  subst hD
  have hk : ∀ p ∈ es, ∃ x, p.1 = .int .i64 x := fun p hp => by obtain ⟨v, hv⟩ := hko p hp; obtain ⟨x, _, hx, _⟩ := Maps.keyOf_i64 Try.underlying3 hv; exact ⟨x, hx⟩
  have hnd : L.Nodup := hL.imp fun h => by omega
  have hin : ∀ x, Maps.has (DataW.map es) (.int .i64 x) = true → wfI x := fun x hx => by
    rw [Maps.has_eq] at hx
    obtain ⟨p, hp, hs⟩ := List.any_eq_true.1 hx
    obtain ⟨y, hy⟩ := hk p hp
    rw [hy] at hs
    have e : y = x := by simpa [Lit.sameKey] using hs
    subst e
    refine hwf y (List.mem_map.2 ⟨p, hp, ?_⟩)
    rw [hy]; rfl
  have hperm : L.Perm (intKeys (DataW.map es)) := perm_intKeys hp hk hnd fun x => by
    rw [hm]
    constructor
    · rintro ⟨a, b⟩
      exact (h2 x a).1.trans b
    · intro hx
      exact ⟨hin x hx, (h2 x (hin x hx)).1.symm.trans hx⟩
  have e := hss.trans hperm.symm
  refine ⟨?_, e.length_eq⟩
  rw [mergeSort_of_perm_i e]
  exact List.mergeSort_of_pairwise (hL.imp fun h => by simp [leI]; omega)
end
theorem Turned.below {w w' w0 : World} {b B : Nat} (h : w.mapTurned w' b) (hB : B ≤ b) (h0 : Below B w0 w) : Below B w0 w' := by
  have g := h.grown
  obtain ⟨_, _, _, _, hb, _⟩ := h
  have hlt := (Array.getElem?_eq_some_iff.1 hb).1
  exact h0.trans ⟨g.os, g.tape, g.output, g.size, fun k hk => g.block k (by omega) (by simp; omega)⟩
theorem Turned.block {w w' : World} {b k : Nat} (h : w.mapTurned w' b) (hk : k ≠ b) : w'.heap[k]? = w.heap[k]? := by
  obtain ⟨es, cl, es', cl', hb, rfl⟩ := h
  simp only [ChangeMaps.setBlock]
  rw [Array.getElem?_setIfInBounds, if_neg (fun e => hk e.symm)]
end QVm
end Go.Proofs.Ytbcjnckejkjfeaa
