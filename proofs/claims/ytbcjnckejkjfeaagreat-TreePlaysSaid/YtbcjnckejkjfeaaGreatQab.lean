/- A region that draws its order, walked once in the order of its text: each operation yields one value in every world that meets S, and keeps S. No condition. -/
import Derived.OrdersHeld
import Derived.Tactics
import Derived.Below
namespace Go.NP
open Go Go.RowKit

section
variable {P : Program} {Q : Exit → Act → World → Prop} {S : (Nat → Bool) → (Nat → Value) → World → Prop}

/-- No way out but for lack of room. -/
def QOut (Q : Exit → Act → World → Prop) : Exit → Act → World → Prop
  | .outgrown, a, w => Q .outgrown a w
  | _, _, _ => False

theorem letsOut_QOut (h : LetsOut (QOut Q)) : LetsOut Q := h

/-- i has come up too. -/
def mark (L : Nat → Bool) (i : Nat) : Nat → Bool := fun j => j == i || L j
def upd (u : Nat → Value) (i : Nat) (x : Value) : Nat → Value := fun j => if j = i then x else u j

/-- In state 'a', in every world that meets S, the operation leaves v and keeps S. -/
def StepIs (P : Program) (ops : Array Oper) (Q : Exit → Act → World → Prop) (S : (Nat → Bool) → (Nat → Value) → World → Prop) (i : Nat) (o : Oper) (v : Value) (a : Act) : Prop :=
  ∀ L u w, L i = false → S L u w → ∀ K : Act → World → Prop, (∀ w', S (mark L i) u w' → K (a.put o.dst v) w') →
    if Region.wanted o (yielded ops a.tmps) = true then o.wp P a w K (QOut Q) else K (a.put o.dst undef) w

/-- The operation leaves something, whose place is known in S, and keeps S. -/
def LooseIs (P : Program) (ops : Array Oper) (Q : Exit → Act → World → Prop) (S : (Nat → Bool) → (Nat → Value) → World → Prop) (i : Nat) (o : Oper) (a : Act) : Prop :=
  ∀ L u w, L i = false → S L u w → ∀ K : Act → World → Prop, (∀ x w', S (mark L i) (upd u i x) w' → K (a.put o.dst x) w') →
    if Region.wanted o (yielded ops a.tmps) = true then o.wp P a w K (QOut Q) else K (a.put o.dst undef) w

/-- One that stores by a loose one's place: its frame holds what the loose ones ahead of it left; it waits for them all. -/
def ReadIs (P : Program) (ops : Array Oper) (Q : Exit → Act → World → Prop) (S : (Nat → Bool) → (Nat → Value) → World → Prop) (i : Nat) (o : Oper) (acc : List (Nat × Option Tmp)) (a : Act) : Prop :=
  ∀ L u w, L i = false → (∀ e ∈ acc, L e.1 = true) → S L u w → ∀ K : Act → World → Prop, (∀ x w', S (mark L i) (upd u i x) w' → K ((acc.foldl (fun b e => b.put e.2 (u e.1)) a).put o.dst x) w') →
    if Region.wanted o (yielded ops (acc.foldl (fun b e => b.put e.2 (u e.1)) a).tmps) = true then o.wp P (acc.foldl (fun b e => b.put e.2 (u e.1)) a) w K (QOut Q) else K ((acc.foldl (fun b e => b.put e.2 (u e.1)) a).put o.dst undef) w

def LooseOr (P : Program) (ops : Array Oper) (Q : Exit → Act → World → Prop) (S : (Nat → Bool) → (Nat → Value) → World → Prop) (es : List Nat) (i : Nat) (o : Oper) (acc : List (Nat × Option Tmp)) (a : Act) : Prop :=
  if es.contains i = true then ReadIs P ops Q S i o acc a else LooseIs P ops Q S i o a

def SeqO (P : Program) (ops : Array Oper) (Q : Exit → Act → World → Prop) (S : (Nat → Bool) → (Nat → Value) → World → Prop) (ls es : List Nat) (T : List (Nat × Option Tmp) → Act → Prop) : Nat → List Oper → List (Nat × Option Tmp) → Act → Prop
  | _, [], acc, a => T acc a
  | i, o :: r, acc, a => if ls.contains i = true then LooseOr P ops Q S es i o acc a ∧ SeqO P ops Q S ls es T (i + 1) r (acc ++ [(i, o.dst)]) a
      else ∃ v, StepIs P ops Q S i o v a ∧ (es.contains i = true → Yields P ops o v a ∧ ∀ L u w, S L u w → S (mark L i) u w) ∧ SeqO P ops Q S ls es T (i + 1) r acc (a.put o.dst v)

def looseOf (ls : List Nat) : Nat → List Oper → List (Nat × Option Tmp)
  | _, [] => []
  | i, o :: r => if ls.contains i = true then (i, o.dst) :: looseOf ls (i + 1) r else looseOf ls (i + 1) r

/-- A list's members, each once. -/
def ddp : List Nat → List Nat → List Nat
  | [], acc => acc
  | x :: r, acc => if acc.contains x = true then ddp r acc else ddp r (x :: acc)
theorem mem_ddp : ∀ (l acc : List Nat) (x : Nat), x ∈ ddp l acc → x ∈ l ∨ x ∈ acc
  | [], _, _, h => .inr h
  | y :: r, acc, x, h => by
    unfold ddp at h
    split at h
    · rcases mem_ddp r acc x h with h | h
      · exact .inl (List.mem_cons_of_mem _ h)
      · exact .inr h
    · rcases mem_ddp r (y :: acc) x h with h | h
      · exact .inl (List.mem_cons_of_mem _ h)
      · rcases List.mem_cons.1 h with rfl | h
        · exact .inl (List.mem_cons_self ..)
        · exact .inr h

/-- On which operations each one waits. -/
def ancGo (md : Region.Mode) : List Oper → List (List Nat) → List (List Nat)
  | [], acc => acc
  | o :: r, acc => ancGo md r (acc ++ [ddp ((o.after.toList.filter (Region.binds md)).flatMap fun e => e.on :: acc.getD e.on []) []])

/-- How a stretch is walked: in whatever order, some leaving what is not known ahead; one after the other; one operation that yields in every world, and that not all behind it wait for. -/
inductive PK where
  | fre (ls es : List Nat)
  | seq
  | pure

/-- In whatever order, nothing eager. -/
abbrev PK.free (ls : List Nat) : PK := .fre ls []

/-- The phases of a walk: (m, some ls): up to m in whatever order, under one S, those of ls leaving something not known ahead; (m, none): up to m one after the other; the rest one after the other. -/
def sameFree : List (Nat × PK) → Nat → Nat → Nat → Bool
  | [], _, _, _ => false
  | (m, b) :: ms, k, i, j => ((match b with | .fre _ _ => true | _ => false) && decide (k ≤ j) && decide (k ≤ i) && decide (j < m) && decide (i < m)) || sameFree ms m i j
def oneLoose : List (Nat × PK) → Nat → Nat → Nat → Bool
  | [], _, _, _ => false
  | (m, b) :: ms, k, i, j => (decide (k ≤ j) && decide (k ≤ i) && decide (j < m) && decide (i < m) && (match b with | .fre ls _ => ls.contains j | _ => false)) || oneLoose ms m i j

def isReader : List (Nat × PK) → Nat → Nat → Bool
  | [], _, _ => false
  | (m, b) :: ms, k, i => (decide (k ≤ i) && decide (i < m) && (match b with | .fre ls es => ls.contains i && es.contains i | _ => false)) || isReader ms m i
def isLoose : List (Nat × PK) → Nat → Nat → Bool
  | [], _, _ => false
  | (m, b) :: ms, k, i => (decide (k ≤ i) && decide (i < m) && (match b with | .fre ls _ => ls.contains i | _ => false)) || isLoose ms m i

def isPure : List (Nat × PK) → Nat → Nat → Bool
  | [], _, _ => false
  | (m, .pure) :: ms, k, j => (decide (m = k + 1) && decide (j = k)) || isPure ms m j
  | (m, _) :: ms, _, j => isPure ms m j

def isEager : List (Nat × PK) → Nat → Nat → Bool
  | [], _, _ => false
  | (m, .fre ls es) :: ms, k, j => (decide (k ≤ j) && decide (j < m) && es.contains j && !ls.contains j) || isEager ms m j
  | (m, _) :: ms, _, j => isEager ms m j

def phasesUp : List (Nat × PK) → Nat → Nat → Bool
  | [], k, n => decide (k ≤ n)
  | (m, _) :: ms, k, n => decide (k ≤ m) && phasesUp ms m n

def seqChk (md : Region.Mode) (l : List Oper) (ms : List (Nat × PK)) : Bool :=
  Region.noSelect l.toArray && phasesUp ms 0 l.length &&
  (let A := ancGo md l []
   (List.range l.length).all fun i => match l[i]? with
     | none => true
     | some oi =>
       (oi.after.toList.all fun e => !Region.binds md e || decide (e.on < i)) &&
       ((List.range i).all fun j => if isPure ms 0 j = true then (oi.after.toList.any (fun e => Region.binds md e && e.on == j) || match l[j]? with | some oj => oj.apart l.toArray oi | none => true) else
         (((A.getD i []).contains j && (!oneLoose ms 0 i j || (isReader ms 0 i && oi.dst.isNone))) || (sameFree ms 0 i j && !(isReader ms 0 i && isLoose ms 0 j) && match l[j]? with | some oj => oi.apart l.toArray oj | none => true) ||
           (isEager ms 0 j && !sameFree ms 0 i j && match l[j]? with | some oj => oj.after.toList.all (fun e => !Region.binds md e || (A.getD i []).contains e.on) | none => true)) &&
         (!isEager ms 0 j || oi.after.toList.any (fun e => Region.binds md e && e.on == j) || match l[j]? with | some oj => oj.apart l.toArray oi | none => true) &&
         (!isEager ms 0 i || match l[j]? with | some oj => oi.apart l.toArray oj || (A.getD i []).contains j | none => true)))

theorem ancGo_ok {md : Region.Mode} {all : List Oper} {L : Nat → Bool} (hcl : ∀ i o, all[i]? = some o → L i = true → ∀ e ∈ o.after, Region.binds md e = true → L e.on = true) :
    ∀ (l : List Oper) (acc : List (List Nat)), (∀ j, l[j]? = all[acc.length + j]?) →
      (∀ i o, i < acc.length → all[i]? = some o → (∀ e ∈ o.after, Region.binds md e = true → L e.on = true) → ∀ j ∈ acc.getD i [], L j = true) →
      (∀ i o, all[i]? = some o → (∀ e ∈ o.after, Region.binds md e = true → L e.on = true) → ∀ j ∈ (ancGo md l acc).getD i [], L j = true) := by
  intro l
  induction l with
  | nil =>
    intro acc hl hacc i o ho hw j hj
    by_cases hi : i < acc.length
    · exact hacc i o hi ho hw j hj
    · simp only [ancGo] at hj
      rw [List.getD_eq_getElem?_getD, List.getElem?_eq_none (by omega)] at hj
      cases hj
  | cons x r ih =>
    intro acc hl hacc
    simp only [ancGo]
    refine ih _ (fun j => ?_) ?_
    · have := hl (j + 1)
      simp only [List.getElem?_cons_succ] at this
      rw [this]; congr 1; simp; omega
    · intro i o hi ho hw j hj
      by_cases hi' : i < acc.length
      · rw [List.getD_eq_getElem?_getD, List.getElem?_append_left hi', ← List.getD_eq_getElem?_getD] at hj
        exact hacc i o hi' ho hw j hj
      · simp at hi
        obtain rfl : i = acc.length := by omega
        have h0 := hl 0
        simp only [List.getElem?_cons_zero, Nat.add_zero] at h0
        rw [ho] at h0; cases h0
        rw [List.getD_eq_getElem?_getD] at hj
        simp only [List.getElem?_append_right (Nat.le_refl _), Nat.sub_self, List.getElem?_cons_zero, Option.getD_some] at hj
        have hj := (mem_ddp _ _ _ hj).resolve_right (List.not_mem_nil)
        rw [List.mem_flatMap] at hj
        obtain ⟨e, he, hje⟩ := hj
        rw [List.mem_filter] at he
        have hea : e ∈ x.after := by simpa using he.1
        have hLe := hw e hea he.2
        rcases List.mem_cons.1 hje with rfl | hje
        · exact hLe
        · by_cases hlt : e.on < acc.length
          · cases hoe : all[e.on]? with
            | none =>
              have hlen : all.length ≤ e.on := by simpa using hoe
              have : acc.length < all.length := by
                rcases Nat.lt_or_ge acc.length all.length with h | h
                · exact h
                · rw [List.getElem?_eq_none h] at ho; cases ho
              omega
            | some oe => exact hacc e.on oe hlt hoe (hcl e.on oe hoe hLe) j hje
          · rw [List.getD_eq_getElem?_getD, List.getElem?_eq_none (by omega)] at hje
            cases hje

/-- The frame when just those of L among the first k have been carried out. -/
def FR (l : List Oper) (v : Nat → Value) (a : Act) (L : Nat → Bool) : Nat → Act
  | 0 => a
  | k + 1 => if L k = true then (FR l v a L k).put ((l[k]?).bind (·.dst)) (v k) else FR l v a L k

theorem put_size (a : Act) (d : Option Tmp) (v : Value) : (a.put d v).tmps.size = a.tmps.size := by
  cases d <;> simp [Act.put]

theorem FR_size (l : List Oper) (v : Nat → Value) (a : Act) (L : Nat → Bool) (k : Nat) : (FR l v a L k).tmps.size = a.tmps.size := by
  induction k with
  | zero => rfl
  | succ k ih =>
    unfold FR; split
    · rw [put_size]; exact ih
    · exact ih

theorem FR_defers (l : List Oper) (v : Nat → Value) (a : Act) (L : Nat → Bool) (k : Nat) : (FR l v a L k).defers = a.defers := by
  induction k with
  | zero => rfl
  | succ k ih =>
    unfold FR; split
    · rw [← ih]; cases ((l[k]?).bind (·.dst)) <;> rfl
    · exact ih

theorem FR_congr {l : List Oper} {v : Nat → Value} {a : Act} {L L' : Nat → Bool} {k : Nat} (h : ∀ j, j < k → L j = L' j) : FR l v a L k = FR l v a L' k := by
  induction k with
  | zero => rfl
  | succ k ih =>
    simp only [FR]; rw [ih (fun j hj => h j (by omega)), h k (by omega)]

theorem FR_slot {l : List Oper} {v : Nat → Value} {a : Act} {L L' : Nat → Bool} (t : Tmp) : ∀ k, (∀ j, j < k → (l[j]?).bind (·.dst) = some t → L j = L' j) →
    (FR l v a L k).tmps[t]? = (FR l v a L' k).tmps[t]? := by
  intro k
  induction k with
  | zero => intro _; rfl
  | succ k ih =>
    intro h
    have ih := ih (fun j hj => h j (by omega))
    by_cases hd : (l[k]?).bind (·.dst) = some t
    · have hk := h k (by omega) hd
      simp only [FR, hk, hd]
      split
      · simp [Act.put, Array.getElem?_setIfInBounds, FR_size]
      · exact ih
    · have key : ∀ (b : Act), (b.put ((l[k]?).bind (·.dst)) (v k)).tmps[t]? = b.tmps[t]? := by
        intro b
        cases hx : (l[k]?).bind (·.dst) with
        | none => rfl
        | some d =>
          have hne : d ≠ t := fun e => hd (by rw [hx, e])
          simp [Act.put, Array.getElem?_setIfInBounds_ne hne]
      simp only [FR]
      split <;> split <;> simp only [key, ih]

theorem FR_add {l : List Oper} {v : Nat → Value} {a : Act} {L : Nat → Bool} {i : Nat} (hLi : L i = false) : ∀ m, i < m →
    (∀ j, i < j → j < m → L j = true → ∀ d, (l[i]?).bind (·.dst) = some d → (l[j]?).bind (·.dst) ≠ some d) →
    FR l v a (fun j => j == i || L j) m = (FR l v a L m).put ((l[i]?).bind (·.dst)) (v i) := by
  intro m
  induction m with
  | zero => intro h; omega
  | succ k ih =>
    intro hi h
    by_cases hk : k = i
    · subst hk
      simp only [FR, beq_self_eq_true, Bool.true_or, if_true, hLi, Bool.false_eq_true, if_false]
      rw [FR_congr (L' := L)]
      intro j hj
      have : (j == k) = false := by simp; omega
      simp [this]
    · have ih := ih (by omega) (fun j hj hjk => h j hj (by omega))
      have hb : (k == i) = false := by simp [hk]
      simp only [FR, hb, Bool.false_or]
      rw [ih]
      split
      · rename_i hL
        rw [Act.put_comm _ _ _ (h k (by omega) (by omega) hL)]
      · rfl

theorem FR_all {l : List Oper} {v : Nat → Value} {a : Act} {L : Nat → Bool} : ∀ {k m : Nat}, k ≤ m → (∀ j, j < k → L j = true) → (∀ j, k ≤ j → j < m → L j = false) →
    FR l v a L m = FR l v a (fun _ => true) k := by
  intro k m hkm h1 h2
  induction m with
  | zero =>
    obtain rfl : k = 0 := by omega
    rfl
  | succ m ih =>
    by_cases h : k = m + 1
    · subst h
      exact FR_congr h1
    · have : L m = false := h2 m (by omega) (by omega)
      simp only [FR, this]
      exact ih (by omega) (fun j hj hjm => h2 j hj (by omega))

theorem FR_vals {l : List Oper} {v v' : Nat → Value} {a : Act} {L : Nat → Bool} {k : Nat} (h : ∀ j, j < k → L j = true → v j = v' j) : FR l v a L k = FR l v' a L k := by
  induction k with
  | zero => rfl
  | succ k ih =>
    simp only [FR]; rw [ih (fun j hj => h j (by omega))]
    split
    · rename_i hL; rw [h k (by omega) hL]
    · rfl

theorem SeqO_vals {ops : Array Oper} {ls es : List Nat} {T : List (Nat × Option Tmp) → Act → Prop} : ∀ (l : List Oper) (i : Nat) (acc : List (Nat × Option Tmp)) (a : Act), SeqO P ops Q S ls es T i l acc a →
    ∃ v : Nat → Value, (∀ n o, l[n]? = some o → if ls.contains (i + n) = true then LooseOr P ops Q S es (i + n) o (acc ++ looseOf ls i (l.take n)) (FR l v a (fun j => !ls.contains (i + j)) n) else StepIs P ops Q S (i + n) o (v n) (FR l v a (fun j => !ls.contains (i + j)) n) ∧ (es.contains (i + n) = true → Yields P ops o (v n) (FR l v a (fun j => !ls.contains (i + j)) n) ∧ ∀ L u w, S L u w → S (mark L (i + n)) u w)) ∧
      T (acc ++ looseOf ls i l) (FR l v a (fun j => !ls.contains (i + j)) l.length) := by
  intro l
  induction l with
  | nil => intro i acc a h; exact ⟨fun _ => undef, fun n o h => by simp at h, by show T (acc ++ []) a; rw [List.append_nil]; exact h⟩
  | cons o r ih =>
    intro i acc a h
    unfold SeqO at h
    by_cases hc : ls.contains i = true
    · rw [if_pos hc] at h
      obtain ⟨hv, hr⟩ := h
      obtain ⟨u, hu, hT⟩ := ih _ _ _ hr
      have shift : ∀ k, FR (o :: r) (fun | 0 => undef | n + 1 => u n) a (fun j => !ls.contains (i + j)) (k + 1) = FR r u a (fun j => !ls.contains (i + 1 + j)) k := by
        intro k
        induction k with
        | zero => simp only [FR, Nat.add_zero, hc]; rfl
        | succ k ih =>
          rw [FR, ih]
          simp only [FR, show i + (k + 1) = i + 1 + k by omega, List.getElem?_cons_succ]
      refine ⟨fun | 0 => undef | n + 1 => u n, fun n x hx => ?_, ?_⟩
      · cases n with
        | zero => simp at hx; subst hx; simp only [Nat.add_zero, hc, if_true, List.take_zero, looseOf, List.append_nil]; exact hv
        | succ n =>
          have h3 := hu n x (by simpa using hx)
          rw [shift, show i + (n + 1) = i + 1 + n by omega]
          simp only [List.take_succ_cons, looseOf, hc, if_true]
          rw [List.append_assoc] at h3; exact h3
      · rw [List.length_cons, shift]
        simp only [looseOf, hc, if_true]
        rw [List.append_assoc] at hT; exact hT
    · rw [if_neg hc] at h
      obtain ⟨v, hv, hve, hr⟩ := h
      obtain ⟨u, hu, hT⟩ := ih _ _ _ hr
      have hc' : ls.contains i = false := by simpa using hc
      have shift : ∀ k, FR (o :: r) (fun | 0 => v | n + 1 => u n) a (fun j => !ls.contains (i + j)) (k + 1) = FR r u (a.put o.dst v) (fun j => !ls.contains (i + 1 + j)) k := by
        intro k
        induction k with
        | zero => simp only [FR, Nat.add_zero, hc']; rfl
        | succ k ih =>
          rw [FR, ih]
          simp only [FR, show i + (k + 1) = i + 1 + k by omega, List.getElem?_cons_succ]
      refine ⟨fun | 0 => v | n + 1 => u n, fun n x hx => ?_, ?_⟩
      · cases n with
        | zero => simp at hx; subst hx; simp only [Nat.add_zero, hc', Bool.false_eq_true, if_false]; exact ⟨hv, hve⟩
        | succ n =>
          have h3 := hu n x (by simpa using hx)
          rw [shift, show i + (n + 1) = i + 1 + n by omega]
          simp only [List.take_succ_cons, looseOf, hc', Bool.false_eq_true, if_false]
          exact h3
      · rw [List.length_cons, shift]
        simp only [looseOf, hc', Bool.false_eq_true, if_false]
        exact hT

theorem put_same {a a' : Act} {d : Option Tmp} {u v : Value} (hs : a'.tmps.size = a.tmps.size) (hu : a.put d u = a.put d v) : a'.put d u = a'.put d v := by
  cases hd : d with
  | none => rfl
  | some d =>
    rw [hd] at hu
    simp only [Act.put, Act.mk.injEq, and_true] at hu ⊢
    have h1 : (a.tmps.setIfInBounds d u)[d]? = (a.tmps.setIfInBounds d v)[d]? := by rw [hu]
    simp only [Array.getElem?_setIfInBounds, if_true] at h1
    by_cases hlt : d < a.tmps.size
    · simp [hlt] at h1; rw [h1]
    · apply Array.ext
      · simp
      · intro i h1 h2
        have h3 : i < a'.tmps.size := by simpa using h1
        have hne : ¬ d = i := fun e => hlt (e ▸ hs ▸ h3)
        rw [Array.getElem_setIfInBounds h3, Array.getElem_setIfInBounds h3, if_neg hne, if_neg hne]

/-- What an operation does, in any state in which it sees the same. -/
theorem wp_at_same {ops : Array Oper} {o : Oper} {a a' : Act} {w : World} {R : Value → World → Prop} (hs : a'.tmps.size = a.tmps.size)
    (he : execOp a'.eval o = execOp a.eval o) (hw : Region.wanted o (yielded ops a'.tmps) = Region.wanted o (yielded ops a.tmps))
    (h : ∀ K : Act → World → Prop, (∀ x w', R x w' → K (a.put o.dst x) w') → if Region.wanted o (yielded ops a.tmps) = true then o.wp P a w K (QOut Q) else K (a.put o.dst undef) w)
    (K : Act → World → Prop) (hK : ∀ x w', R x w' → K (a'.put o.dst x) w') : if Region.wanted o (yielded ops a'.tmps) = true then o.wp P a' w K (QOut Q) else K (a'.put o.dst undef) w := by
  have tr : ∀ u w', (∃ x, a.put o.dst u = a.put o.dst x ∧ R x w') → K (a'.put o.dst u) w' := by
    rintro u w' ⟨x, hx, hR⟩
    rw [put_same hs hx]; exact hK x w' hR
  have h0 := h (fun b w' => ∃ x, b = a.put o.dst x ∧ R x w') (fun x w' hR => ⟨x, rfl, hR⟩)
  rw [hw]
  split
  · rename_i hwt
    rw [if_pos hwt] at h0
    unfold Oper.wp at *
    rw [he]
    generalize (execOp a.eval o).run P w = r at *
    cases r with
    | ok n w' =>
      cases n <;> simp only [Oper.upon] at h0 ⊢
      case value u => exact tr _ _ h0
      case skip => exact tr _ _ h0
      case defer d =>
        obtain ⟨x, hx, _⟩ := h0
        have := congrArg (fun b : Act => b.defers.length) hx
        cases hdst : o.dst <;> simp [Act.put, hdst] at this
      case enter f args =>
        refine Calls.mono h0 fun e w'' hx => ?_
        cases e with
        | returned u => exact tr _ _ hx
        | panicked c => exact hx
        | outgrown => exact hx
      case row row args =>
        refine Rows.mono h0 fun u w'' hx => ?_
        exact tr _ _ hx
    | halt x w' =>
      cases x <;> simp only [Oper.upon] at h0 ⊢
      case panic u => exact h0
  · rename_i hwt
    rw [if_neg hwt] at h0
    exact tr _ _ h0

theorem StepIs.at_same {ops : Array Oper} {i : Nat} {o : Oper} {v : Value} {a a' : Act} (h : StepIs P ops Q S i o v a) (hs : a'.tmps.size = a.tmps.size)
    (he : execOp a'.eval o = execOp a.eval o) (hw : Region.wanted o (yielded ops a'.tmps) = Region.wanted o (yielded ops a.tmps)) : StepIs P ops Q S i o v a' := by
  intro L u w hL hS K hK
  exact wp_at_same (R := fun x w' => x = v ∧ S (mark L i) u w') hs he hw (fun K' hK' => h L u w hL hS K' (fun w' hw' => hK' v w' ⟨rfl, hw'⟩)) K (fun x w' hx => by rw [hx.1]; exact hK w' hx.2)

theorem LooseIs.at_same {ops : Array Oper} {i : Nat} {o : Oper} {a a' : Act} (h : LooseIs P ops Q S i o a) (hs : a'.tmps.size = a.tmps.size)
    (he : execOp a'.eval o = execOp a.eval o) (hw : Region.wanted o (yielded ops a'.tmps) = Region.wanted o (yielded ops a.tmps)) : LooseIs P ops Q S i o a' := by
  intro L u w hL hS K hK
  exact wp_at_same (R := fun x w' => S (mark L i) (upd u i x) w') hs he hw (fun K' hK' => h L u w hL hS K' hK') K hK

theorem wp_at_frame {ops : Array Oper} {o : Oper} {a a' : Act} {w : World} {R : Value → World → Prop} (hs : a'.tmps.size = a.tmps.size)
    (he : execOp a'.eval o = execOp a.eval o) (hw : Region.wanted o (yielded ops a'.tmps) = Region.wanted o (yielded ops a.tmps))
    (h : ∀ K : Act → World → Prop, (∀ x w', R x w' → K (a.put o.dst x) w') → if Region.wanted o (yielded ops a.tmps) = true then o.wp P a w K (QOut Q) else K (a.put o.dst undef) w)
    (K : Act → World → Prop) (hK : ∀ x w', R x w' → K (a'.put o.dst x) w') : if Region.wanted o (yielded ops a'.tmps) = true then o.wp P a' w K (QOut Q) else K (a'.put o.dst undef) w := wp_at_same (R := R) hs he hw h K hK

theorem wpOp_of {ops : Array Oper} {i : Nat} {o : Oper} {a : Act} {w : World} {K : Act → World → Prop} (ho : ops[i]? = some o)
    (h0 : if Region.wanted o (yielded ops a.tmps) = true then o.wp P a w K (QOut Q) else K (a.put o.dst undef) w) : wpOp P ops Q i K a w := by
  unfold Go.wpOp
  simp only [ho]
  split
  · rename_i hw
    rw [if_pos hw] at h0
    refine .inl ?_
    unfold Oper.wp at *
    generalize (execOp a.eval o).run P w = r at *
    cases r with
    | ok n w' =>
      cases n <;> simp only [Oper.upon] at h0 ⊢ <;> first | exact h0 | skip
      case enter f args =>
        refine Calls.mono h0 fun e w'' hx => ?_
        cases e with
        | returned u => exact hx
        | panicked c => exact hx.elim
        | outgrown => exact hx
    | halt x w' =>
      cases x <;> simp only [Oper.upon] at h0 ⊢
      case panic u => exact h0.elim
  · rename_i hw
    rw [if_neg hw] at h0
    exact h0

/-- How many have not come up. -/
def unl (listed : Array Bool) (n : Nat) : Nat := ((List.range n).filter fun j => !listed.getD j false).length

theorem unl_zero {listed : Array Bool} {n : Nat} (h : unl listed n = 0) (j : Nat) (hj : j < n) : listed.getD j false = true := by
  have h1 := List.length_eq_zero_iff.1 h
  rw [List.filter_eq_nil_iff] at h1
  have := h1 j (by simpa using hj)
  simpa using this

theorem unl_set {listed : Array Bool} {n i : Nat} (hi : i < n) (hs : listed.size = n) (hf : listed.getD i false = false) : unl (listed.setIfInBounds i true) n < unl listed n := by
  unfold unl
  have hsub : ∀ l : List Nat, l.Nodup → (i ∈ l → ((l.filter fun j => !(listed.setIfInBounds i true).getD j false).length + 1 = (l.filter fun j => !listed.getD j false).length)) ∧
      (i ∉ l → ((l.filter fun j => !(listed.setIfInBounds i true).getD j false) = (l.filter fun j => !listed.getD j false))) := by
    intro l
    induction l with
    | nil => intro _; exact ⟨fun h => (by cases h), fun _ => rfl⟩
    | cons x r ih =>
      intro hnd
      rw [List.nodup_cons] at hnd
      obtain ⟨ih1, ih2⟩ := ih hnd.2
      constructor
      · intro hm
        by_cases hx : x = i
        · subst hx
          rw [List.filter_cons, List.filter_cons, ih2 hnd.1]
          have a1 : (listed.setIfInBounds x true).getD x false = true := by simp [hs, hi]
          simp [a1, hf]
        · have hm' : i ∈ r := by
            rcases List.mem_cons.1 hm with h | h
            · exact absurd h.symm hx
            · exact h
          have a1 := getD_set_ne (listed := listed) false (Ne.symm hx)
          have := ih1 hm'
          rw [List.filter_cons, List.filter_cons, a1]
          split
          · rw [List.length_cons, List.length_cons]; omega
          · exact this
      · intro hm
        rw [List.mem_cons, not_or] at hm
        have a1 := getD_set_ne (listed := listed) false hm.1
        rw [List.filter_cons, List.filter_cons, a1, ih2 hm.2]
  have := (hsub (List.range n) List.nodup_range).1 (by simpa using hi)
  omega

theorem ready_nil_all {md : Region.Mode} {l : List Oper} {listed : Array Bool} (hs : listed.size = l.length) (hback : ∀ i o, l[i]? = some o → ∀ e ∈ o.after, Region.binds md e = true → e.on < i)
    (hr : Region.ready md l.toArray listed = []) : ∀ i, i < l.length → listed.getD i false = true := by
  intro i
  induction i using Nat.strongRecOn with
  | ind i ih =>
    intro hi
    cases hb : listed.getD i false with
    | true => rfl
    | false =>
      exfalso
      have : i ∈ Region.ready md l.toArray listed := by
        rw [mem_ready]
        refine ⟨?_, l[i], by simp [hi], fun e he hbd => ih e.on (hback i l[i] (by simp [hi]) e he hbd) ?_⟩
        · have hlt : i < listed.size := by omega
          simp [hlt] at hb ⊢; exact hb
        · have := hback i l[i] (by simp [hi]) e he hbd; omega
      rw [hr] at this; cases this

theorem looseOf_mem {ls : List Nat} : ∀ (l : List Oper) (i : Nat) (e : Nat × Option Tmp), e ∈ looseOf ls i l → ∃ n o, l[n]? = some o ∧ e = (i + n, o.dst) ∧ ls.contains (i + n) = true := by
  intro l
  induction l with
  | nil => intro i e h; cases h
  | cons o r ih =>
    intro i e h
    unfold looseOf at h
    split at h
    · rename_i hc
      rcases List.mem_cons.1 h with rfl | h
      · exact ⟨0, o, rfl, rfl, hc⟩
      · obtain ⟨n, o', h1, h2, h3⟩ := ih _ _ h
        exact ⟨n + 1, o', by simpa using h1, by rw [h2]; congr 1; omega, by rw [show i + (n + 1) = i + 1 + n by omega]; exact h3⟩
    · obtain ⟨n, o', h1, h2, h3⟩ := ih _ _ h
      exact ⟨n + 1, o', by simpa using h1, by rw [h2]; congr 1; omega, by rw [show i + (n + 1) = i + 1 + n by omega]; exact h3⟩

section main
variable {md : Region.Mode} {l : List Oper}

structure ChkOk (md : Region.Mode) (l : List Oper) : Prop where
  nosel : Region.noSelect l.toArray = true
  back : ∀ i o, l[i]? = some o → ∀ e ∈ o.after, Region.binds md e = true → e.on < i

/-- From k on: whoever stands behind another one waits for it, or is apart from it in one free phase. -/
def Pairs (md : Region.Mode) (l : List Oper) (ms : List (Nat × PK)) (k : Nat) : Prop :=
  ∀ i j oi oj, l[i]? = some oi → l[j]? = some oj → k ≤ i → k ≤ j → j < i → (isPure ms k j = false ∧ (((j ∈ (ancGo md l []).getD i [] ∧ (oneLoose ms k i j = false ∨ (isReader ms k i = true ∧ oi.dst = none))) ∨ (sameFree ms k i j = true ∧ (isReader ms k i && isLoose ms k j) = false ∧ oi.apart l.toArray oj = true) ∨
      (isEager ms k j = true ∧ sameFree ms k i j = false ∧ ∀ e ∈ oj.after, Region.binds md e = true → e.on ∈ (ancGo md l []).getD i [])) ∧
      (isEager ms k j = true → (∃ e ∈ oi.after, Region.binds md e = true ∧ e.on = j) ∨ oj.apart l.toArray oi = true) ∧
      (isEager ms k i = true → oi.apart l.toArray oj = true ∨ j ∈ (ancGo md l []).getD i []))) ∨
    (isPure ms k j = true ∧ ((∃ e ∈ oi.after, Region.binds md e = true ∧ e.on = j) ∨ oj.apart l.toArray oi = true))

theorem chkOk {ms : List (Nat × PK)} (h : seqChk md l ms = true) : ChkOk md l ∧ phasesUp ms 0 l.length = true ∧ Pairs md l ms 0 := by
  simp only [seqChk, Bool.and_eq_true, List.all_eq_true, List.mem_range] at h
  obtain ⟨⟨h0, hup⟩, h1⟩ := h
  have h1 : ∀ i oi, l[i]? = some oi → (∀ e ∈ oi.after, Region.binds md e = true → e.on < i) ∧ (∀ j oj, l[j]? = some oj → j < i →
      (isPure ms 0 j = false ∧ (((j ∈ (ancGo md l []).getD i [] ∧ (oneLoose ms 0 i j = false ∨ (isReader ms 0 i = true ∧ oi.dst = none))) ∨ (sameFree ms 0 i j = true ∧ (isReader ms 0 i && isLoose ms 0 j) = false ∧ oi.apart l.toArray oj = true) ∨
      (isEager ms 0 j = true ∧ sameFree ms 0 i j = false ∧ ∀ e ∈ oj.after, Region.binds md e = true → e.on ∈ (ancGo md l []).getD i [])) ∧
      (isEager ms 0 j = true → (∃ e ∈ oi.after, Region.binds md e = true ∧ e.on = j) ∨ oj.apart l.toArray oi = true) ∧
      (isEager ms 0 i = true → oi.apart l.toArray oj = true ∨ j ∈ (ancGo md l []).getD i []))) ∨
      (isPure ms 0 j = true ∧ ((∃ e ∈ oi.after, Region.binds md e = true ∧ e.on = j) ∨ oj.apart l.toArray oi = true))) := by
    intro i oi hi
    have hlt : i < l.length := by
      rcases Nat.lt_or_ge i l.length with h | h
      · exact h
      · rw [List.getElem?_eq_none h] at hi; cases hi
    have := h1 i hlt
    simp only [hi, Bool.and_eq_true, List.all_eq_true, List.mem_range] at this
    obtain ⟨ha, hb⟩ := this
    refine ⟨fun e he hbd => ?_, fun j oj hlj hj => ?_⟩
    · have := ha e (by simpa using he)
      simpa [hbd] using this
    · have := hb j hj
      rw [hlj] at this
      split at this
      · rename_i hp
        refine .inr ⟨hp, ?_⟩
        simp only [Bool.or_eq_true, List.any_eq_true, Bool.and_eq_true, beq_iff_eq] at this
        rcases this with ⟨e, he, hb1, hb2⟩ | h
        · exact .inl ⟨e, by simpa using he, hb1, hb2⟩
        · exact .inr h
      · rename_i hp
        refine .inl ⟨by simpa using hp, ?_⟩
        simp only [Bool.and_eq_true, Bool.or_eq_true, Bool.not_eq_true', List.all_eq_true, List.any_eq_true, beq_iff_eq] at this
        obtain ⟨⟨h1, h2⟩, h3⟩ := this
        refine ⟨?_, fun he => ?_, fun he => ?_⟩
        · rcases h1 with (⟨h, h'⟩ | h) | ⟨⟨h, h0⟩, h'⟩
          · refine .inl ⟨by simpa using h, ?_⟩
            rcases h' with h' | ⟨h', h''⟩
            · exact .inl h'
            · exact .inr ⟨h', by simpa using h''⟩
          · exact .inr (.inl ⟨h.1.1, h.1.2, h.2⟩)
          · refine .inr (.inr ⟨h, h0, fun e he hb => ?_⟩)
            rcases h' e (by simpa using he) with h | h
            · rw [h] at hb; cases hb
            · simpa using h
        · rcases h2 with (h | ⟨e, h4, h5, h6⟩) | h
          · rw [h] at he; cases he
          · exact .inl ⟨e, by simpa using h4, h5, h6⟩
          · exact .inr h
        · rcases h3 with h | h | h
          · rw [h] at he; cases he
          · exact .inl h
          · exact .inr (by simpa using h)
  refine ⟨⟨h0, fun i o ho => (h1 i o ho).1⟩, hup, fun i j oi oj hi hj _ _ hlt => ?_⟩
  exact (h1 i oi hi).2 j oj hj hlt

theorem apart_symm {ops : Array Oper} {x y : Oper} (h : x.apart ops y = true) : (∀ d, y.dst = some d → d ∉ x.looksAt ops) ∧ (∀ d, x.dst = some d → y.dst ≠ some d) ∧ (∀ d, x.dst = some d → d ∉ y.looksAt ops) := by
  obtain ⟨a, b, c⟩ := Oper.apart_spec h
  exact ⟨c, b, a⟩

theorem wanted_same {ops : Array Oper} {o : Oper} {a a' : Act} (h : ∀ t ∈ o.looksAt ops, a'.tmps[t]? = a.tmps[t]?) :
    Region.wanted o (yielded ops a'.tmps) = Region.wanted o (yielded ops a.tmps) := by
  unfold Region.wanted
  cases hg : o.guard with
  | none => rfl
  | some gw =>
    obtain ⟨g, want⟩ := gw
    have hy : yielded ops a'.tmps g = yielded ops a.tmps g := by
      unfold yielded
      cases ht : (ops[g]?).bind (·.dst) with
      | none => rfl
      | some t =>
        have := h t (by simp [Oper.looksAt, hg, ht])
        simp [this]
    simp only [hy]

theorem exec_same {ops : Array Oper} {o : Oper} {a a' : Act} (hs : ∀ cs b, o.op ≠ .select cs b) (h : ∀ t ∈ o.looksAt ops, a'.tmps[t]? = a.tmps[t]?) :
    execOp a'.eval o = execOp a.eval o :=
  execOp_congr o hs fun x hx => by
    cases x with
    | tmp t =>
      have := h t (List.mem_append_left _ (List.mem_filterMap.2 ⟨.tmp t, by simpa using hx, rfl⟩))
      simp only [Act.eval, Array.getD_eq_getD_getElem?, this]
    | _ => rfl

theorem wp_then {o : Oper} {a : Act} {w : World} {K N : Act → World → Prop} (h : o.wp P a w K (Exit.then N Q)) : o.wp P a w K Q := by
  unfold Oper.wp at *
  generalize (execOp a.eval o).run P w = r at *
  cases r with
  | ok n w' =>
    cases n <;> simp only [Oper.upon] at h ⊢ <;> exact h
  | halt x w' => cases x <;> simp only [Oper.upon] at h ⊢ <;> exact h

/-- Just those ahead of k have come up. -/
structure UpTo (l : List Oper) (k : Nat) (listed : Array Bool) : Prop where
  size : listed.size = l.length
  done : ∀ j, j < k → listed.getD j false = true
  left : ∀ j, k ≤ j → j < l.length → listed.getD j false = false

/-- What serves from k on. -/
def From (P : Program) (md : Region.Mode) (l : List Oper) (Q : Exit → Act → World → Prop) (k : Nat) (K : Act → World → Prop) : Prop :=
  ∀ (fuel : Nat) (listed : Array Bool) (a : Act) (w : World), UpTo l k listed → l.length - k ≤ fuel → K a w → wpAny P md l.toArray Q fuel listed a w

theorem lt_of_some {i : Nat} {o : Oper} (h : l[i]? = some o) : i < l.length := by
  rcases Nat.lt_or_ge i l.length with h' | h'
  · exact h'
  · rw [List.getElem?_eq_none h'] at h; cases h

theorem upTo_closed (hc : ChkOk md l) {k : Nat} {listed : Array Bool} (hu : UpTo l k listed) (i : Nat) (o : Oper) (ho : l[i]? = some o) (hl : listed.getD i false = true) (e : Edge) (he : e ∈ o.after) (hb : Region.binds md e = true) : listed.getD e.on false = true := by
  have hik : i < k := by
    rcases Nat.lt_or_ge i k with h | h
    · exact h
    · rw [hu.left i h (lt_of_some ho)] at hl; cases hl
  exact hu.done _ (by have := hc.back i o ho e he hb; omega)

theorem from_end : From P md l Q l.length (Q .normal) := by
  intro fuel listed a w hu hf h
  have hr : Region.ready md l.toArray listed = [] := by
    rw [List.eq_nil_iff_forall_not_mem]
    intro i hi
    rw [mem_ready] at hi
    obtain ⟨h0, o, ho, _⟩ := hi
    have hlt : i < l.length := lt_of_some (by simpa using ho)
    have := hu.done i hlt
    have hlt' : i < listed.size := by have := hu.size; omega
    simp [hlt'] at h0 this; simp [h0] at this
  exact wpAny_done hr h fuel

/-- Who may come up next: one that has not, and that waits for nobody who has not. -/
theorem ready_facts {listed : Array Bool} (hs : listed.size = l.length) {i : Nat} (hi : i ∈ Region.ready md l.toArray listed) :
    ∃ o, l[i]? = some o ∧ listed.getD i false = false ∧ ∀ e ∈ o.after, Region.binds md e = true → listed.getD e.on false = true := by
  rw [mem_ready] at hi
  obtain ⟨h0, o, ho, hw⟩ := hi
  have hlo : l[i]? = some o := by simpa using ho
  refine ⟨o, hlo, ?_, hw⟩
  have hlt' : i < listed.size := by have := lt_of_some hlo; omega
  simp [hlt'] at h0 ⊢; exact h0

/-- One step, one after the other. -/
theorem from_step (hc : ChkOk md l) {k : Nat} {o : Oper} (hk : l[k]? = some o) (hall : ∀ i o, l[i]? = some o → k < i → k ∈ (ancGo md l []).getD i []) {K : Act → World → Prop}
    (hK : From P md l Q (k + 1) K) : From P md l Q k (wpOp P l.toArray Q k K) := by
  intro fuel listed a w hu hf h
  have hkl := lt_of_some hk
  cases fuel with
  | zero => omega
  | succ fuel =>
    constructor
    · intro hr
      have hall := ready_nil_all hu.size hc.back hr
      have a1 := hall k hkl; have a2 := hu.left k (Nat.le_refl _) hkl; rw [a1] at a2; cases a2
    · intro i hi
      obtain ⟨x, hx, hil, hw⟩ := ready_facts hu.size hi
      have hlt := lt_of_some hx
      have hki : k ≤ i := by
        rcases Nat.lt_or_ge i k with h | h
        · rw [hu.done i h] at hil; cases hil
        · exact h
      have hik : i = k := by
        rcases Nat.lt_or_ge k i with h | h
        · exfalso
          have := ancGo_ok (md := md) (all := l) (L := fun j => listed.getD j false) (upTo_closed hc hu) l [] (by simp) (fun i o h => by simp at h) i x hx hw k (hall i x hx h)
          rw [hu.left k (Nat.le_refl _) hkl] at this; cases this
        · omega
      subst hik
      refine wpOp_mono (fun a' w' h' => hK fuel _ a' w' ⟨by simpa using hu.size, ?_, ?_⟩ (by omega) h') h
      · intro j hj
        by_cases hji : i = j
        · subst hji; simp [hu.size, hlt]
        · rw [getD_set_ne false hji]; exact hu.done j (by omega)
      · intro j hj hjl
        rw [getD_set_ne false (by omega)]; exact hu.left j (by omega) hjl

/-- A stretch, one after the other. -/
theorem from_list (hc : ChkOk md l) : ∀ (n k : Nat), k + n ≤ l.length → (∀ i j o, l[i]? = some o → k ≤ j → j < k + n → j < i → j ∈ (ancGo md l []).getD i []) → ∀ {K : Act → World → Prop},
    From P md l Q (k + n) K → From P md l Q k (wpList P l.toArray (Exit.then K Q) ((l.drop k).take n)) := by
  intro n
  induction n with
  | zero =>
    intro k _ _ K hK fuel listed a w hu hf h
    simp only [List.take_zero, wpList, Exit.then] at h
    exact hK fuel listed a w hu hf h
  | succ n ih =>
    intro k hn hall K hK fuel listed a w hu hf h
    have hkl : k < l.length := by omega
    have hk : l[k]? = some l[k] := by simp [hkl]
    have h1 := ih (k + 1) (by omega) (fun i j o ho hj hjn hji => hall i j o ho (by omega) (by omega) hji) (K := K) (by rw [show k + 1 + n = k + (n + 1) by omega]; exact hK)
    refine from_step hc hk (fun i o ho hki => hall i k o ho (Nat.le_refl _) (by omega) hki) h1 fuel listed a w hu hf ?_
    rw [List.drop_eq_getElem_cons hkl, List.take_succ_cons] at h
    unfold wpList at h
    unfold wpOp
    rw [List.getElem?_toArray, hk]
    show if Region.wanted l[k] (yielded l.toArray a.tmps) = true then _ else _
    split
    · rename_i hwt
      rw [if_pos hwt] at h
      exact h.imp (fun h => wp_then h) id
    · rename_i hwt
      rw [if_neg hwt] at h
      exact h

theorem mark_listed {listed : Array Bool} {i : Nat} (hi : i < listed.size) : (fun j => (listed.setIfInBounds i true).getD j false) = mark (fun j => listed.getD j false) i := by
  funext j
  unfold mark
  by_cases hji : i = j
  · subst hji; simp [hi]
  · rw [getD_set_ne false hji]
    have : (j == i) = false := by simp; omega
    rw [this]; rfl

/-- A stretch in whatever order. -/
theorem from_seq (hc : ChkOk md l) {k m : Nat} {ls es : List Nat} (hml : m ≤ l.length)
    (hQ : ∀ j o, l[j]? = some o → es.contains j = true → ∀ c a v w, Q (.panic c) (a.put o.dst v) w → Q (.panic c) a w)
    (heager : ∀ j o, l[j]? = some o → k ≤ j → j < m → es.contains j = true → ls.contains j = false →
      (∀ i oi, l[i]? = some oi → j < i → (∃ e ∈ oi.after, Region.binds md e = true ∧ e.on = j) ∨ o.apart l.toArray oi = true) ∧
      (∀ i oi, l[i]? = some oi → k ≤ i → i < j → o.apart l.toArray oi = true ∨ i ∈ (ancGo md l []).getD j []))
    (hpair : ∀ i j oi oj, l[i]? = some oi → l[j]? = some oj → k ≤ i → k ≤ j → j < i → (j ∈ (ancGo md l []).getD i [] ∧ (k ≤ j → i < m → ls.contains j = false ∨ (ls.contains i = true ∧ es.contains i = true ∧ oi.dst = none))) ∨ (k ≤ j ∧ i < m ∧ (ls.contains i && es.contains i && ls.contains j) = false ∧ oi.apart l.toArray oj = true) ∨ m ≤ j ∨ (m ≤ i ∧ j < m ∧ es.contains j = true ∧ ls.contains j = false ∧ ∀ e ∈ oj.after, Region.binds md e = true → e.on ∈ (ancGo md l []).getD i []))
    {K : Act → World → Prop} (hK : From P md l Q m K)
    {v : Nat → Value} {a : Act}
    (hv : ∀ i o, k ≤ i → i < m → l[i]? = some o → if ls.contains i = true then LooseOr P l.toArray Q S es i o (looseOf ls k ((l.drop k).take (i - k))) (FR l v a (fun j => decide (k ≤ j) && !ls.contains j) i) else StepIs P l.toArray Q S i o (v i) (FR l v a (fun j => decide (k ≤ j) && !ls.contains j) i))
    (hve : ∀ i o, k ≤ i → i < m → l[i]? = some o → es.contains i = true → ls.contains i = false → Yields P l.toArray o (v i) (FR l v a (fun j => decide (k ≤ j) && !ls.contains j) i) ∧ ∀ L u w, S L u w → S (mark L i) u w)
    (hFL : ∀ (u : Nat → Value) i, k ≤ i → i ≤ m → FR l (fun j => if ls.contains j = true then u j else v j) a (fun j => decide (k ≤ j)) i =
      (looseOf ls k ((l.drop k).take (i - k))).foldl (fun b e => b.put e.2 (u e.1)) (FR l v a (fun j => decide (k ≤ j) && !ls.contains j) i))
    (hT : ∀ L u w, (∀ j, j < m → L j = true) → S L u w → K (FR l (fun j => if ls.contains j = true then u j else v j) a (fun j => decide (k ≤ j)) m) w) :
    ∀ (fuel : Nat) (listed : Array Bool) (u : Nat → Value) (w : World), listed.size = l.length → unl listed l.length ≤ fuel → S (fun j => listed.getD j false) u w →
      (∀ i o, l[i]? = some o → listed.getD i false = true → ∀ e ∈ o.after, Region.binds md e = true → listed.getD e.on false = true) →
      (∀ j, j < k → listed.getD j false = true) → (∀ j, m ≤ j → j < l.length → listed.getD j false = false) →
      wpAny P md l.toArray Q fuel listed (FR l (fun j => if ls.contains j = true then u j else v j) a (fun j => decide (k ≤ j) && listed.getD j false) m) w := by
  have hcount : ∀ (listed : Array Bool), (∀ j, m ≤ j → j < l.length → listed.getD j false = false) → l.length - m ≤ unl listed l.length := by
    intro listed hun
    unfold unl
    have : ∀ n, m ≤ n → n ≤ l.length → n - m ≤ ((List.range n).filter fun j => !listed.getD j false).length := by
      intro n
      induction n with
      | zero => intro _ _; simp
      | succ n ihn =>
        intro h1 h2
        rw [List.range_succ, List.filter_append, List.length_append]
        by_cases hmn : m = n + 1
        · omega
        · have := ihn (by omega) (by omega)
          have h3 := hun n (by omega) (by omega)
          have h4 : (List.filter (fun j => !listed.getD j false) [n]).length = 1 := by rw [List.filter_cons, h3]; rfl
          rw [h4]; omega
    exact this l.length hml (Nat.le_refl _)
  have hend : ∀ (fuel : Nat) (listed : Array Bool) (u : Nat → Value) (w : World), listed.size = l.length → unl listed l.length ≤ fuel → S (fun j => listed.getD j false) u w → (∀ j, j < m → listed.getD j false = true) → (∀ j, m ≤ j → j < l.length → listed.getD j false = false) →
      wpAny P md l.toArray Q fuel listed (FR l (fun j => if ls.contains j = true then u j else v j) a (fun j => decide (k ≤ j) && listed.getD j false) m) w := by
    intro fuel listed u w hs hf hS hd hun
    rw [FR_congr (L' := fun j => decide (k ≤ j)) (fun j hj => by rw [hd j hj]; simp)]
    exact hK fuel listed _ w ⟨hs, hd, hun⟩ (Nat.le_trans (hcount listed hun) hf) (hT _ u w hd hS)
  intro fuel
  induction fuel with
  | zero =>
    intro listed u w hs hf hS hcl hdk hun
    have hall := unl_zero (Nat.le_zero.1 hf)
    exact hend 0 listed u w hs hf hS (fun j hj => hall j (by omega)) hun
  | succ fuel ih =>
    intro listed u w hs hf hS hcl hdk hun
    by_cases hdone : ∀ j, j < m → listed.getD j false = true
    · exact hend (fuel + 1) listed u w hs hf hS hdone hun
    · have hanc : ∀ i' o', l[i']? = some o' → (∀ e ∈ o'.after, Region.binds md e = true → listed.getD e.on false = true) → ∀ j ∈ (ancGo md l []).getD i' [], listed.getD j false = true :=
        ancGo_ok (md := md) (all := l) (L := fun j => listed.getD j false) hcl l [] (by simp) (fun i o h => by simp at h)
      have hcore : ∀ i o, l[i]? = some o → listed.getD i false = false → (∀ e ∈ o.after, Region.binds md e = true → listed.getD e.on false = true) → k ≤ i → i < m →
          (¬ (ls.contains i = true ∧ es.contains i = true) → ∀ t ∈ o.looksAt l.toArray, (FR l (fun j => if ls.contains j = true then u j else v j) a (fun j => decide (k ≤ j) && listed.getD j false) m).tmps[t]? = (FR l v a (fun j => decide (k ≤ j) && !ls.contains j) i).tmps[t]?) ∧
          ((ls.contains i = true ∧ es.contains i = true) → ∀ t ∈ o.looksAt l.toArray, (FR l (fun j => if ls.contains j = true then u j else v j) a (fun j => decide (k ≤ j) && listed.getD j false) m).tmps[t]? = (FR l (fun j => if ls.contains j = true then u j else v j) a (fun j => decide (k ≤ j)) i).tmps[t]?) ∧
          (∀ (u' : Nat → Value) (x : Value) (w' : World), (∀ j, j ≠ i → u' j = u j) → (if ls.contains i = true then u' i else v i) = x → S (mark (fun j => listed.getD j false) i) u' w' →
            wpAny P md l.toArray Q fuel (listed.setIfInBounds i true) ((FR l (fun j => if ls.contains j = true then u j else v j) a (fun j => decide (k ≤ j) && listed.getD j false) m).put o.dst x) w') := by
        intro i o hlo hil hw hki him
        have hlt := lt_of_some hlo
        have hlook : ¬ (ls.contains i = true ∧ es.contains i = true) → ∀ t ∈ o.looksAt l.toArray, (FR l (fun j => if ls.contains j = true then u j else v j) a (fun j => decide (k ≤ j) && listed.getD j false) m).tmps[t]? = (FR l v a (fun j => decide (k ≤ j) && !ls.contains j) i).tmps[t]? := by
          intro hnr t ht
          have htr : FR l v a (fun j => decide (k ≤ j) && !ls.contains j) i = FR l (fun j => if ls.contains j = true then u j else v j) a (fun j => decide (k ≤ j) && !ls.contains j && decide (j < i)) m := by
            rw [FR_vals (v := fun j => if ls.contains j = true then u j else v j) (v' := v) (fun j _ hL => by
              simp only [Bool.and_eq_true, Bool.not_eq_true'] at hL
              simp only [hL.1.2, Bool.false_eq_true, if_false])]
            have key : ∀ n, i ≤ n → FR l v a (fun j => decide (k ≤ j) && !ls.contains j && decide (j < i)) n = FR l v a (fun j => decide (k ≤ j) && !ls.contains j) i := by
              intro n
              induction n with
              | zero => intro h; obtain rfl : i = 0 := by omega
                        rfl
              | succ n ihn =>
                intro h
                by_cases hn : i = n + 1
                · subst hn
                  exact FR_congr fun j hj => by simp [hj]
                · have : (decide (k ≤ n) && !ls.contains n && decide (n < i)) = false := by
                    rw [show decide (n < i) = false from decide_eq_false (by omega)]; simp
                  simp only [FR, this]
                  exact ihn (by omega)
            exact (key m (by omega)).symm
          rw [htr]
          apply FR_slot
          intro j hj hdst
          cases hoj : l[j]? with
          | none => rw [hoj] at hdst; cases hdst
          | some oj =>
            rw [hoj] at hdst
            have hdst : oj.dst = some t := hdst
            by_cases hkj : k ≤ j
            · simp only [hkj, decide_true, Bool.true_and]
              rcases Nat.lt_trichotomy j i with hji | hji | hji
              · rcases hpair i j o oj hlo hoj hki hkj hji with ⟨hh, hl⟩ | ⟨_, _, _, hh⟩ | hh | ⟨hh, _⟩
                · rcases hl hkj him with hl | hl
                  · rw [hanc i o hlo hw j hh, hl]; simp [hji]
                  · exact absurd ⟨hl.1, hl.2.1⟩ hnr
                · exact absurd ht ((apart_symm hh).1 t hdst)
                · omega
                · omega
              · subst hji; rw [hil]; simp
              · have : listed.getD j false = false := by
                  cases hb : listed.getD j false with
                  | false => rfl
                  | true =>
                    rcases hpair j i oj o hoj hlo hkj hki hji with ⟨hh, _⟩ | ⟨_, _, _, hh⟩ | hh | ⟨hh, _⟩
                    · have := hanc j oj hoj (hcl j oj hoj hb) i hh
                      rw [hil] at this; cases this
                    · exact absurd ht ((apart_symm hh).2.2 t hdst)
                    · omega
                    · omega
                rw [this, show decide (j < i) = false from decide_eq_false (by omega)]; simp
            · simp [hkj]
        have hlookR : (ls.contains i = true ∧ es.contains i = true) → ∀ t ∈ o.looksAt l.toArray, (FR l (fun j => if ls.contains j = true then u j else v j) a (fun j => decide (k ≤ j) && listed.getD j false) m).tmps[t]? = (FR l (fun j => if ls.contains j = true then u j else v j) a (fun j => decide (k ≤ j)) i).tmps[t]? := by
          intro hnr t ht
          have key : ∀ n, i ≤ n → FR l (fun j => if ls.contains j = true then u j else v j) a (fun j => decide (k ≤ j) && decide (j < i)) n = FR l (fun j => if ls.contains j = true then u j else v j) a (fun j => decide (k ≤ j)) i := by
            intro n
            induction n with
            | zero => intro h; obtain rfl : i = 0 := by omega
                      rfl
            | succ n ihn =>
              intro h
              by_cases hn : i = n + 1
              · subst hn
                exact FR_congr fun j hj => by simp [hj]
              · have : (decide (k ≤ n) && decide (n < i)) = false := by
                  rw [show decide (n < i) = false from decide_eq_false (by omega)]; simp
                simp only [FR, this]
                exact ihn (by omega)
          rw [← key m (by omega)]
          apply FR_slot
          intro j hj hdst
          cases hoj : l[j]? with
          | none => rw [hoj] at hdst; cases hdst
          | some oj =>
            rw [hoj] at hdst
            have hdst : oj.dst = some t := hdst
            by_cases hkj : k ≤ j
            · simp only [hkj, decide_true, Bool.true_and]
              rcases Nat.lt_trichotomy j i with hji | hji | hji
              · rcases hpair i j o oj hlo hoj hki hkj hji with ⟨hh, hl⟩ | ⟨_, _, _, hh⟩ | hh | ⟨hh, _⟩
                · rw [hanc i o hlo hw j hh]; simp [hji]
                · exact absurd ht ((apart_symm hh).1 t hdst)
                · omega
                · omega
              · subst hji; rw [hil]; simp
              · have : listed.getD j false = false := by
                  cases hb : listed.getD j false with
                  | false => rfl
                  | true =>
                    rcases hpair j i oj o hoj hlo hkj hki hji with ⟨hh, _⟩ | ⟨_, _, _, hh⟩ | hh | ⟨hh, _⟩
                    · have := hanc j oj hoj (hcl j oj hoj hb) i hh
                      rw [hil] at this; cases this
                    · exact absurd ht ((apart_symm hh).2.2 t hdst)
                    · omega
                    · omega
                rw [this, show decide (j < i) = false from decide_eq_false (by omega)]
            · simp [hkj]
        refine ⟨hlook, hlookR, ?_⟩
        intro u' x w' hu' hx hS'
        have hadd := FR_add (l := l) (v := fun j => if ls.contains j = true then u' j else v j) (a := a) (L := fun j => decide (k ≤ j) && listed.getD j false) (i := i) (by rw [hil]; simp) m him (by
          intro j hij hjm hLj d hd hdj
          simp only [Bool.and_eq_true, decide_eq_true_eq] at hLj
          have hoj : l[j]? = some l[j] := by simp [show j < l.length by omega]
          rw [hlo] at hd; rw [hoj] at hdj
          have hd : o.dst = some d := hd
          have hdj : l[j].dst = some d := hdj
          rcases hpair j i l[j] o hoj hlo hLj.1 hki hij with ⟨hh, _⟩ | ⟨_, _, _, hh⟩ | hh | ⟨hh, _⟩
          · have := hanc j l[j] hoj (hcl j _ hoj hLj.2) i hh
            rw [hil] at this; cases this
          · exact (apart_symm hh).2.1 d hdj hd
          · omega
          · omega)
        rw [hlo] at hadd
        simp only [Option.bind_some] at hadd
        have hsame : FR l (fun j => if ls.contains j = true then u j else v j) a (fun j => decide (k ≤ j) && listed.getD j false) m = FR l (fun j => if ls.contains j = true then u' j else v j) a (fun j => decide (k ≤ j) && listed.getD j false) m :=
          FR_vals fun j _ hL => by
            have : j ≠ i := fun e => by subst e; rw [hil] at hL; simp at hL
            simp only [hu' j this]
        rw [hsame, ← hx, ← hadd]
        have hfr : FR l (fun j => if ls.contains j = true then u' j else v j) a (fun j => j == i || (decide (k ≤ j) && listed.getD j false)) m = FR l (fun j => if ls.contains j = true then u' j else v j) a (fun j => decide (k ≤ j) && (listed.setIfInBounds i true).getD j false) m := by
          apply FR_congr
          intro j hj
          by_cases hji : i = j
          · subst hji; simp [hs, hlt, hki]
          · rw [getD_set_ne false hji]
            have : (j == i) = false := by simp; omega
            rw [this]; rfl
        rw [hfr]
        refine ih (listed.setIfInBounds i true) u' w' (by simpa using hs) ?_ (by rw [mark_listed (by omega)]; exact hS') ?_ ?_ ?_
        · have := unl_set (listed := listed) (n := l.length) hlt hs hil; omega
        · intro i' o' ho' hl' e he hb
          by_cases hji : i = i'
          · subst hji
            rw [hlo] at ho'; cases ho'
            exact getD_set_true (hw e he hb)
          · rw [getD_set_ne false hji] at hl'
            exact getD_set_true (hcl i' o' ho' hl' e he hb)
        · intro j hj
          exact getD_set_true (hdk j hj)
        · intro j hj hjl
          rw [getD_set_ne false (by omega)]; exact hun j hj hjl
      by_cases hea : ∃ j o, l[j]? = some o ∧ es.contains j = true ∧ ls.contains j = false ∧ k ≤ j ∧ j < m ∧ listed.getD j false = false ∧ ∀ e ∈ o.after, Region.binds md e = true → listed.getD e.on false = true
      · -- an eager one that may come up is taken first
        obtain ⟨j, o, hlo, hej, hlj, hkj, hjm, hjl, hw⟩ := hea
        obtain ⟨hlook, _, hnext⟩ := hcore j o hlo hjl hw hkj hjm
        have hlook := hlook (fun h => by rw [hlj] at h; cases h.1)
        obtain ⟨hy, hst⟩ := hve j o hkj hjm hlo hej hlj
        have hlt := lt_of_some hlo
        have hjs : j < listed.size := by omega
        have hko : l.toArray[j]? = some o := by simpa using hlo
        have hsel := Region.noSelect_spec hc.nosel
        have hy' : Yields P l.toArray o (v j) (FR l (fun j => if ls.contains j = true then u j else v j) a (fun j => decide (k ≤ j) && listed.getD j false) m) :=
          hy.of_same (exec_same (fun cs b => hsel j o cs b hko) hlook) (wanted_same hlook)
        obtain ⟨hfa, hfb⟩ := heager j o hlo hkj hjm hej hlj
        refine wpAny_first hko hsel (fun c a w => hQ j o hlo hej c a (v j) w) fuel listed _ w (fun i oi hoi hij hun hno => ?_) ?_ hy' ?_
        · have hoi' : l[i]? = some oi := by simpa using hoi
          have hil : listed.getD i false = false := by
            have hlt' : i < listed.size := by have := lt_of_some hoi'; omega
            simp [hlt'] at hun ⊢; exact hun
          rcases Nat.lt_trichotomy i j with h | h | h
          · have hki : k ≤ i := by
              rcases Nat.lt_or_ge i k with h' | h'
              · rw [hdk i h'] at hil; cases hil
              · exact h'
            rcases hfb i oi hoi' hki h with h' | h'
            · exact h'
            · rw [hanc j o hlo hw i h'] at hil; cases hil
          · exact absurd h hij
          · rcases hfa i oi hoi' h with ⟨e, he, hb, hon⟩ | h'
            · exact absurd hon (hno e he hb)
            · exact h'
        · rw [mem_ready]
          refine ⟨?_, o, hko, hw⟩
          simp [hjs] at hjl ⊢; exact hjl
        · exact hnext u (v j) w (fun _ _ => rfl) (by rw [if_neg (by rw [hlj]; simp)]) (hst _ _ _ hS)
      · constructor
        · intro hr
          exact absurd (fun j hj => ready_nil_all hs hc.back hr j (by omega)) hdone
        · intro i hi
          obtain ⟨o, hlo, hil, hw⟩ := ready_facts hs hi
          have hlt := lt_of_some hlo
          have hki : k ≤ i := by
            rcases Nat.lt_or_ge i k with h | h
            · rw [hdk i h] at hil; cases hil
            · exact h
          have him : i < m := by
            rcases Nat.lt_or_ge i m with h | h
            · exact h
            · exfalso
              apply hdone
              intro j hj
              rcases Nat.lt_or_ge j k with hjk | hjk
              · exact hdk j hjk
              rcases hpair i j o l[j] hlo (by simp [show j < l.length by omega]) hki hjk (by omega) with ⟨hh, _⟩ | ⟨_, hh, _, _⟩ | hh | ⟨_, _, h3, h4, h5⟩
              · exact hanc i o hlo hw j hh
              · omega
              · omega
              · cases hb : listed.getD j false with
                | true => rfl
                | false =>
                  exact absurd ⟨j, l[j], by simp [show j < l.length by omega], h3, h4, hjk, hj, hb, fun e he hbd => hanc i o hlo hw e.on (h5 e he hbd)⟩ hea
          obtain ⟨hlook, hlookR, hnext⟩ := hcore i o hlo hil hw hki him
          have hsel := Region.noSelect_spec hc.nosel
          by_cases hrd : ls.contains i = true ∧ es.contains i = true
          · have hlook := hlookR hrd
            have he := exec_same (a := FR l (fun j => if ls.contains j = true then u j else v j) a (fun j => decide (k ≤ j)) i) (fun cs b => hsel i o cs b (by simpa using hlo)) hlook
            have hwn := wanted_same hlook
            have hvi := hv i o hki him hlo
            rw [if_pos hrd.1] at hvi
            unfold LooseOr at hvi
            rw [if_pos hrd.2] at hvi
            have hvi := hvi (fun j => listed.getD j false) u w hil (fun e he => by
              obtain ⟨n, oj, h1, h2, h3⟩ := looseOf_mem _ _ _ he
              have hn : n < i - k := by have := lt_of_some h1; simp at this; omega
              rw [List.getElem?_take_of_lt hn, List.getElem?_drop] at h1
              subst h2
              rcases hpair i (k + n) o oj hlo h1 hki (by omega) (by omega) with ⟨hh, _⟩ | ⟨_, _, hh, _⟩ | hh | ⟨hh, _⟩
              · exact hanc i o hlo hw _ hh
              · rw [hrd.1, hrd.2, h3] at hh; cases hh
              · omega
              · omega) hS
            rw [← hFL u i hki (by omega)] at hvi
            refine wpOp_of (by simpa using hlo) (wp_at_same (R := fun x w' => S (mark (fun j => listed.getD j false) i) (upd u i x) w') (by rw [FR_size, FR_size]) he hwn hvi _ fun x w' hS' => ?_)
            exact hnext (upd u i x) x w' (fun j hj => by simp [upd, hj]) (by rw [if_pos hrd.1]; simp [upd]) hS'
          have hlook := hlook hrd
          have he := exec_same (a := FR l v a (fun j => decide (k ≤ j) && !ls.contains j) i) (fun cs b => hsel i o cs b (by simpa using hlo)) hlook
          have hwn := wanted_same hlook
          have hvi := hv i o hki him hlo
          by_cases hci : ls.contains i = true
          · rw [if_pos hci] at hvi
            unfold LooseOr at hvi
            rw [if_neg (fun h => hrd ⟨hci, h⟩)] at hvi
            have hst := hvi.at_same (by rw [FR_size, FR_size]) he hwn
            refine wpOp_of (by simpa using hlo) (hst _ u w hil hS _ fun x w' hS' => ?_)
            exact hnext (upd u i x) x w' (fun j hj => by simp [upd, hj]) (by rw [if_pos hci]; simp [upd]) hS'
          · rw [if_neg hci] at hvi
            have hst := hvi.at_same (by rw [FR_size, FR_size]) he hwn
            refine wpOp_of (by simpa using hlo) (hst _ u w hil hS _ fun w' hS' => ?_)
            exact hnext u (v i) w' (fun j _ => rfl) (by rw [if_neg hci]) hS'

theorem foldl_put_comm (u : Nat → Value) (d : Option Tmp) (x : Value) : ∀ (ps : List (Nat × Option Tmp)) (a : Act), (∀ e ∈ ps, ∀ t, d = some t → e.2 ≠ some t) →
    ps.foldl (fun b e => b.put e.2 (u e.1)) (a.put d x) = (ps.foldl (fun b e => b.put e.2 (u e.1)) a).put d x := by
  intro ps
  induction ps with
  | nil => intro a _; rfl
  | cons e r ih =>
    intro a h
    simp only [List.foldl_cons]
    rw [Act.put_comm a x (u e.1) (fun t ht => h e (by simp) t ht), ih _ (fun e' he' => h e' (by simp [he']))]

theorem looseOf_snoc {ls : List Nat} (o : Oper) : ∀ (l : List Oper) (i : Nat), looseOf ls i (l ++ [o]) = looseOf ls i l ++ (if ls.contains (i + l.length) = true then [(i + l.length, o.dst)] else []) := by
  intro l
  induction l with
  | nil => intro i; simp [looseOf]
  | cons x r ih =>
    intro i
    simp only [List.cons_append, looseOf, ih, List.length_cons, show i + 1 + r.length = i + (r.length + 1) by omega]
    split <;> rfl

/-- The frame with what is not known ahead laid last. -/
theorem FR_loose (ls : List Nat) (v u : Nat → Value) (a : Act) (k : Nat) : ∀ n, k + n ≤ l.length →
    (∀ i j oi oj, l[i]? = some oi → l[j]? = some oj → k ≤ j → j < i → i < k + n → ls.contains j = true → ∀ t, oi.dst = some t → oj.dst ≠ some t) →
    FR l (fun j => if ls.contains j = true then u j else v j) a (fun j => decide (k ≤ j)) (k + n) =
      (looseOf ls k ((l.drop k).take n)).foldl (fun b e => b.put e.2 (u e.1)) (FR l v a (fun j => decide (k ≤ j) && !ls.contains j) (k + n)) := by
  intro n
  induction n with
  | zero =>
    intro _ _
    have key : ∀ (M : Nat → Bool) (v : Nat → Value), (∀ j, j < k → M j = false) → ∀ q, q ≤ k → FR l v a M q = a := by
      intro M v hM q
      induction q with
      | zero => intro _; rfl
      | succ q ihq =>
        intro h
        simp only [FR, hM q (by omega)]
        exact ihq (by omega)
    rw [Nat.add_zero, key _ _ (fun j hj => by simp; omega) k (Nat.le_refl _), key _ _ (fun j hj => by simp; omega) k (Nat.le_refl _)]
    simp [looseOf]
  | succ n ih =>
    intro hn h
    have ih := ih (by omega) (fun i j oi oj hi hj hk hji hin => h i j oi oj hi hj hk hji (by omega))
    have hlt : k + n < l.length := by omega
    have htake : (l.drop k).take (n + 1) = (l.drop k).take n ++ [l[k + n]] := by
      rw [List.take_succ_eq_append_getElem (by simp; omega)]
      congr 1; simp
    have hlen : ((l.drop k).take n).length = n := by simp; omega
    have hko : l[k + n]? = some l[k + n] := by simp [hlt]
    rw [htake, looseOf_snoc, hlen, show k + (n + 1) = k + n + 1 by omega]
    have hkn : decide (k ≤ k + n) = true := by simp
    by_cases hc : ls.contains (k + n) = true
    · simp only [FR, hc, if_true, hkn, Bool.not_true, Bool.and_false, Bool.false_eq_true, if_false, List.foldl_append, List.foldl_cons, List.foldl_nil, hko, Option.bind_some]
      rw [ih]
    · have hc' : ls.contains (k + n) = false := by simpa using hc
      simp only [FR, hc', if_true, hkn, Bool.not_false, Bool.and_self, Bool.false_eq_true, if_false, List.append_nil, hko, Option.bind_some]
      rw [ih, foldl_put_comm]
      intro e he t ht
      obtain ⟨q, o', h1, h2, h3⟩ := looseOf_mem _ _ _ he
      have hq : q < n := by
        have := lt_of_some h1; omega
      rw [List.getElem?_take_of_lt hq, List.getElem?_drop] at h1
      subst h2
      exact h (k + n) (k + q) l[k + n] o' hko h1 (by omega) (by omega) (by omega) h3 t ht

theorem seqO_part {ops : Array Oper} {ls es : List Nat} {T : List (Nat × Option Tmp) → Act → Prop} {a : Act} {k m : Nat} (h : SeqO P ops Q S ls es T k ((l.drop k).take (m - k)) [] a) (hkm : k ≤ m) (hm : m ≤ l.length) :
    ∃ v : Nat → Value, (∀ i o, k ≤ i → i < m → l[i]? = some o → if ls.contains i = true then LooseOr P ops Q S es i o (looseOf ls k ((l.drop k).take (i - k))) (FR l v a (fun j => decide (k ≤ j) && !ls.contains j) i) else StepIs P ops Q S i o (v i) (FR l v a (fun j => decide (k ≤ j) && !ls.contains j) i) ∧ (es.contains i = true → Yields P ops o (v i) (FR l v a (fun j => decide (k ≤ j) && !ls.contains j) i) ∧ ∀ L u w, S L u w → S (mark L i) u w)) ∧
      T (looseOf ls k ((l.drop k).take (m - k))) (FR l v a (fun j => decide (k ≤ j) && !ls.contains j) m) := by
  obtain ⟨v, hv, hT⟩ := SeqO_vals _ _ _ _ h
  have hget : ∀ n, n < m - k → ((l.drop k).take (m - k))[n]? = l[k + n]? := by
    intro n hn
    rw [List.getElem?_take_of_lt hn, List.getElem?_drop]
  have hbase : ∀ n, n ≤ k → FR l (fun j => v (j - k)) a (fun j => decide (k ≤ j) && !ls.contains j) n = a := by
    intro n
    induction n with
    | zero => intro _; rfl
    | succ n ih =>
      intro h
      have : ¬ k ≤ n := by omega
      simp only [FR, this, decide_false, Bool.false_and]
      exact ih (by omega)
  have hfr : ∀ n, n ≤ m - k → FR ((l.drop k).take (m - k)) v a (fun j => !ls.contains (k + j)) n = FR l (fun j => v (j - k)) a (fun j => decide (k ≤ j) && !ls.contains j) (k + n) := by
    intro n
    induction n with
    | zero => intro _; rw [Nat.add_zero, hbase k (Nat.le_refl _)]; rfl
    | succ n ih =>
      intro hn
      show FR _ v a _ (n + 1) = FR l (fun j => v (j - k)) a _ (k + n + 1)
      simp only [FR]
      rw [ih (by omega), hget n (by omega)]
      simp
  refine ⟨fun j => v (j - k), fun i o hki him ho => ?_, ?_⟩
  · have := hv (i - k) o (by rw [hget _ (by omega), show k + (i - k) = i by omega]; exact ho)
    rw [hfr _ (by omega), show k + (i - k) = i by omega, List.nil_append, List.take_take, Nat.min_eq_left (by omega)] at this
    exact this
  · have hl : ((l.drop k).take (m - k)).length = m - k := by simp; omega
    rw [hl, hfr _ (Nat.le_refl _), show k + (m - k) = m by omega, List.nil_append] at hT
    exact hT

/-- One operation that yields in every world. -/
theorem from_pure (hc : ChkOk md l) {k : Nat} {o : Oper} (hk : l[k]? = some o) (hQ : ∀ c a v w, Q (.panic c) (a.put o.dst v) w → Q (.panic c) a w)
    (hap : ∀ j oj, l[j]? = some oj → k < j → (∀ e ∈ oj.after, Region.binds md e = true → e.on ≠ k) → o.apart l.toArray oj = true) {K : Act → World → Prop} (hK : From P md l Q (k + 1) K) :
    From P md l Q k (fun a w => ∃ v, Yields P l.toArray o v a ∧ K (a.put o.dst v) w) := by
  intro fuel listed a w hu hf h
  obtain ⟨v, hy, h⟩ := h
  have hkl := lt_of_some hk
  have hks : k < listed.size := by have := hu.size; omega
  cases fuel with
  | zero => omega
  | succ fuel =>
    have hko : l.toArray[k]? = some o := by simpa using hk
    refine wpAny_first hko (Region.noSelect_spec hc.nosel) (fun c a w => hQ c a v w) fuel listed a w (fun j oj hoj hjk hun hno => ?_) ?_ hy ?_
    · have hoj' : l[j]? = some oj := by simpa using hoj
      refine hap j oj hoj' ?_ hno
      rcases Nat.lt_or_ge j k with h | h
      · have := hu.done j h
        have hjs : j < listed.size := by have := hu.size; omega
        simp [hjs] at this hun; rw [this] at hun; cases hun
      · omega
    · rw [mem_ready]
      refine ⟨?_, o, hko, fun e he hb => hu.done e.on (hc.back k o hk e he hb)⟩
      have := hu.left k (Nat.le_refl _) hkl
      simp [hks] at this ⊢; exact this
    · refine hK fuel _ _ w ⟨by simpa using hu.size, fun j hj => ?_, fun j hj hjl => ?_⟩ (by omega) h
      · by_cases hji : k = j
        · subst hji; simp [hks]
        · rw [getD_set_ne false hji]; exact hu.done j (by omega)
      · rw [getD_set_ne false (by omega)]; exact hu.left j (by omega) hjl

theorem isPure_le : ∀ (ms : List (Nat × PK)) (k n j : Nat), phasesUp ms k n = true → isPure ms k j = true → k ≤ j := by
  intro ms
  induction ms with
  | nil => intro k n j _ h; cases h
  | cons x ms ih =>
    obtain ⟨m, b⟩ := x
    intro k n j hup h
    simp only [phasesUp, Bool.and_eq_true, decide_eq_true_eq] at hup
    cases b with
    | fre ls es => have := ih m n j hup.2 h; omega
    | seq => have := ih m n j hup.2 h; omega
    | pure =>
      simp only [isPure, Bool.or_eq_true, Bool.and_eq_true, decide_eq_true_eq] at h
      rcases h with h | h
      · omega
      · have := ih m n j hup.2 h; omega

theorem isEager_le : ∀ (ms : List (Nat × PK)) (k n j : Nat), phasesUp ms k n = true → isEager ms k j = true → k ≤ j := by
  intro ms
  induction ms with
  | nil => intro k n j _ h; cases h
  | cons x ms ih =>
    obtain ⟨m, b⟩ := x
    intro k n j hup h
    simp only [phasesUp, Bool.and_eq_true, decide_eq_true_eq] at hup
    cases b with
    | fre ls es =>
      simp only [isEager, Bool.or_eq_true, Bool.and_eq_true, decide_eq_true_eq] at h
      rcases h with h | h
      · omega
      · have := ih m n j hup.2 h; omega
    | seq => have := ih m n j hup.2 h; omega
    | pure => have := ih m n j hup.2 h; omega

/-- The phases, one after the other. -/
def Ph (P : Program) (l : List Oper) (Q : Exit → Act → World → Prop) : List (Nat × PK) → Nat → Act → World → Prop
  | [], k, a, w => wpList P l.toArray Q (l.drop k) a w
  | (m, .fre ls es) :: ms, k, a, w => (∀ j o, l[j]? = some o → es.contains j = true → ∀ c a v w, Q (.panic c) (a.put o.dst v) w → Q (.panic c) a w) ∧ ∃ S : (Nat → Bool) → (Nat → Value) → World → Prop, (∀ L u, (∀ j, k ≤ j → j < m → L j = false) → S L u w) ∧
      SeqO P l.toArray Q S ls es (fun acc a' => ∀ L u w', (∀ j, j < m → L j = true) → S L u w' → Ph P l Q ms m (acc.foldl (fun b e => b.put e.2 (u e.1)) a') w') k ((l.drop k).take (m - k)) [] a
  | (m, .seq) :: ms, k, a, w => wpList P l.toArray (Exit.then (Ph P l Q ms m) Q) ((l.drop k).take (m - k)) a w
  | (m, .pure) :: ms, k, a, w => m = k + 1 ∧ ∃ o v, l[k]? = some o ∧ (∀ c a v w, Q (.panic c) (a.put o.dst v) w → Q (.panic c) a w) ∧ Yields P l.toArray o v a ∧ Ph P l Q ms m (a.put o.dst v) w

theorem sameFree_le : ∀ (ms : List (Nat × PK)) (k n i j : Nat), phasesUp ms k n = true → sameFree ms k i j = true → k ≤ j ∧ k ≤ i := by
  intro ms
  induction ms with
  | nil => intro k n i j _ h; cases h
  | cons x ms ih =>
    obtain ⟨m, b⟩ := x
    intro k n i j hup h
    simp only [phasesUp, Bool.and_eq_true, decide_eq_true_eq] at hup
    simp only [sameFree, Bool.or_eq_true, Bool.and_eq_true, decide_eq_true_eq] at h
    rcases h with h | h
    · omega
    · have := ih m n i j hup.2 h; omega

theorem isReader_le : ∀ (ms : List (Nat × PK)) (k n i : Nat), phasesUp ms k n = true → isReader ms k i = true → k ≤ i := by
  intro ms
  induction ms with
  | nil => intro k n i _ h; cases h
  | cons x ms ih =>
    obtain ⟨m, b⟩ := x
    intro k n i hup h
    simp only [phasesUp, Bool.and_eq_true, decide_eq_true_eq] at hup
    simp only [isReader, Bool.or_eq_true, Bool.and_eq_true, decide_eq_true_eq] at h
    rcases h with h | h
    · omega
    · have := ih m n i hup.2 h; omega

theorem phasesUp_le : ∀ (ms : List (Nat × PK)) (k n : Nat), phasesUp ms k n = true → k ≤ n := by
  intro ms
  induction ms with
  | nil => intro k n h; simpa [phasesUp] using h
  | cons x ms ih =>
    obtain ⟨m, b⟩ := x
    intro k n h
    simp only [phasesUp, Bool.and_eq_true, decide_eq_true_eq] at h
    have := ih m n h.2; omega

theorem apart_flip {ops : Array Oper} {x y : Oper} (h : x.apart ops y = true) : y.apart ops x = true := by
  obtain ⟨h1, h2, h3⟩ := Oper.apart_spec h
  unfold Oper.apart
  cases hx : x.dst with
  | none =>
    cases hy : y.dst with
    | none => rfl
    | some d => simp only [Bool.and_true, Bool.and_eq_true, Bool.not_eq_true', bne_iff_ne, ne_eq]; exact ⟨by simpa using h3 d hy, by simp⟩
  | some e =>
    have h1e := h1 e hx
    cases hy : y.dst with
    | none => simp only [Bool.true_and, Bool.not_eq_true']; simpa using h1e
    | some d =>
      simp only [Bool.and_eq_true, Bool.not_eq_true', bne_iff_ne, ne_eq]
      exact ⟨⟨by simpa using h3 d hy, fun he => h2 e hx (by rw [hy, ← he])⟩, by simpa using h1e⟩

theorem from_phases (hc : ChkOk md l) : ∀ (ms : List (Nat × PK)) (k : Nat), phasesUp ms k l.length = true → Pairs md l ms k → From P md l Q k (Ph P l Q ms k) := by
  intro ms
  induction ms with
  | nil =>
    intro k hup hp
    have hkl := phasesUp_le [] k l.length hup
    have h1 := from_list (P := P) (Q := Q) hc (l.length - k) k (by omega) (fun i j o ho hkj hj hji => by
      rcases hp i j o l[j] ho (by simp [show j < l.length by omega]) (by omega) hkj hji with ⟨_, h | ⟨h, _⟩ | ⟨h, _⟩, _⟩ | ⟨h, _⟩
      · exact h.1
      · cases h
      · cases h
      · cases h) (K := Q .normal) (by rw [show k + (l.length - k) = l.length by omega]; exact from_end)
    have e1 : (l.drop k).take (l.length - k) = l.drop k := by rw [List.take_of_length_le (by simp)]
    have e2 : (Exit.then (Q .normal) Q) = Q := by funext e a w; cases e <;> rfl
    rw [e1, e2] at h1
    exact h1
  | cons x ms ih =>
    obtain ⟨m, b⟩ := x
    intro k hup hp
    simp only [phasesUp, Bool.and_eq_true, decide_eq_true_eq] at hup
    obtain ⟨hkm, hup⟩ := hup
    have hml := phasesUp_le ms m l.length hup
    have hpu : ∀ j, m ≤ j → isPure ((m, b) :: ms) k j = isPure ms m j := by
      intro j hj
      cases b with
      | fre ls es => rfl
      | seq => rfl
      | pure =>
        simp only [isPure]
        by_cases h : m = k + 1
        · rw [show decide (j = k) = false from decide_eq_false (by omega)]; simp
        · rw [show decide (m = k + 1) = false from decide_eq_false h]; simp
    have heg : ∀ j, m ≤ j → isEager ((m, b) :: ms) k j = isEager ms m j := by
      intro j hj
      cases b with
      | seq => rfl
      | pure => rfl
      | fre ls es =>
        simp only [isEager]
        rw [show decide (j < m) = false from decide_eq_false (by omega)]; simp
    have hrd : ∀ j, m ≤ j → isReader ((m, b) :: ms) k j = isReader ms m j := by
      intro j hj
      simp only [isReader]
      rw [show decide (j < m) = false from decide_eq_false (by omega)]; simp
    have hlo : ∀ j, m ≤ j → isLoose ((m, b) :: ms) k j = isLoose ms m j := by
      intro j hj
      simp only [isLoose]
      rw [show decide (j < m) = false from decide_eq_false (by omega)]; simp
    have hp' : Pairs md l ms m := by
      intro i j oi oj hi hj hmi hmj hji
      rcases hp i j oi oj hi hj (by omega) (by omega) hji with ⟨h0, h⟩ | ⟨h0, h⟩
      · rw [hpu j hmj] at h0
        obtain ⟨h, hx1, hx2⟩ := h
        rw [heg j hmj] at h hx1
        rw [heg i hmi] at hx2
        refine .inl ⟨h0, ?_, hx1, hx2⟩
        rw [hrd i hmi] at h
        rw [hlo j hmj] at h
        rcases h with ⟨h, h'⟩ | ⟨h, h'⟩ | h
        · simp only [oneLoose, Bool.or_eq_false_iff] at h'
          refine .inl ⟨h, ?_⟩
          rcases h' with h' | h'
          · exact .inl h'.2
          · exact .inr h'
        · simp only [sameFree, Bool.or_eq_true, Bool.and_eq_true, decide_eq_true_eq] at h
          rcases h with h | h
          · omega
          · exact .inr (.inl ⟨h, h'⟩)
        · simp only [sameFree, Bool.or_eq_false_iff] at h
          exact .inr (.inr ⟨h.1, h.2.1.2, h.2.2⟩)
      · rw [hpu j hmj] at h0
        exact .inr ⟨h0, h⟩
    have hnext := ih m hup hp'
    cases b with
    | seq =>
      have h1 := from_list (P := P) (Q := Q) hc (m - k) k (by omega) (fun i j o ho hkj hj hji => by
        rcases hp i j o l[j] ho (by simp [show j < l.length by omega]) (by omega) hkj hji with ⟨_, h | ⟨h, _⟩ | ⟨h, _⟩, _⟩ | ⟨h, _⟩
        · exact h.1
        · simp only [sameFree, Bool.false_and, Bool.false_or] at h
          have := sameFree_le ms m l.length i j hup h
          omega
        · have := isEager_le ms m l.length j hup h; omega
        · have := isPure_le ms m l.length j hup h; omega) (K := Ph P l Q ms m) (by rw [show k + (m - k) = m by omega]; exact hnext)
      exact h1
    | pure =>
      intro fuel listed a w hu hf h
      obtain ⟨hm, o, v, hk, hQ, hy, h⟩ := h
      subst hm
      refine from_pure hc hk hQ (fun j oj hoj hkj hno => ?_) hnext fuel listed a w hu hf ⟨v, hy, h⟩
      rcases hp j k oj o hoj hk (by omega) (Nat.le_refl _) hkj with ⟨h0, _⟩ | ⟨_, ⟨e, he, hb, hon⟩ | h⟩
      · simp [isPure] at h0
      · exact absurd hon (hno e he hb)
      · exact h
    | fre ls es =>
      have hpr : ∀ i j oi oj, l[i]? = some oi → l[j]? = some oj → k ≤ i → k ≤ j → j < i → (j ∈ (ancGo md l []).getD i [] ∧ (k ≤ j → i < m → ls.contains j = false ∨ (ls.contains i = true ∧ es.contains i = true ∧ oi.dst = none))) ∨ (k ≤ j ∧ i < m ∧ (ls.contains i && es.contains i && ls.contains j) = false ∧ oi.apart l.toArray oj = true) ∨ m ≤ j ∨ (m ≤ i ∧ j < m ∧ es.contains j = true ∧ ls.contains j = false ∧ ∀ e ∈ oj.after, Region.binds md e = true → e.on ∈ (ancGo md l []).getD i []) := by
        intro i j oi oj hi hj hki hkj hji
        rcases hp i j oi oj hi hj hki hkj hji with ⟨_, ⟨h, h'⟩ | ⟨h, h'⟩ | ⟨h, h'⟩, hx1, hx2⟩ | ⟨h, _⟩
        · refine .inl ⟨h, fun hkj him => ?_⟩
          rcases h' with h' | ⟨h', hd⟩
          rotate_left
          · right
            simp only [isReader, Bool.or_eq_true, Bool.and_eq_true, decide_eq_true_eq] at h'
            rcases h' with h' | h'
            · exact ⟨h'.2.1, h'.2.2, hd⟩
            · have := isReader_le ms m l.length i hup h'; omega
          left
          simp only [oneLoose, Bool.or_eq_false_iff] at h'
          have := h'.1
          simp only [hkj, hki, show j < m by omega, him, decide_true, Bool.true_and] at this
          exact this
        · simp only [sameFree, Bool.true_and, Bool.or_eq_true, Bool.and_eq_true, decide_eq_true_eq] at h
          rcases h with h | h
          · refine .inr (.inl ⟨h.1.1.1, h.2, ?_, h'.2⟩)
            have h3 := h'.1
            simp only [isReader, isLoose, hki, hkj, h.2, h.1.2, decide_true, Bool.true_and] at h3
            rcases Bool.and_eq_false_iff.1 h3 with h3 | h3
            · rw [(Bool.or_eq_false_iff.1 h3).1]; rfl
            · rw [(Bool.or_eq_false_iff.1 h3).1]; simp
          · exact .inr (.inr (.inl (sameFree_le ms m l.length i j hup h).1))
        · have hh := h
          simp only [isEager, Bool.or_eq_true, Bool.and_eq_true, decide_eq_true_eq, Bool.not_eq_true'] at hh
          rcases hh with ⟨⟨⟨h1, h2⟩, h3⟩, h4⟩ | hh
          · rcases Nat.lt_or_ge i m with him | him
            · exfalso
              have := h'.1
              simp only [sameFree, Bool.or_eq_false_iff, Bool.true_and] at this
              simp [hkj, hki, h2, him] at this
            · exact .inr (.inr (.inr ⟨him, h2, h3, h4, h'.2⟩))
          · exact .inr (.inr (.inl (isEager_le ms m l.length j hup hh)))
        · exact .inr (.inr (.inl (isPure_le ms m l.length j hup h)))
      have hea : ∀ j o, l[j]? = some o → k ≤ j → j < m → es.contains j = true → ls.contains j = false →
          (∀ i oi, l[i]? = some oi → j < i → (∃ e ∈ oi.after, Region.binds md e = true ∧ e.on = j) ∨ o.apart l.toArray oi = true) ∧
          (∀ i oi, l[i]? = some oi → k ≤ i → i < j → o.apart l.toArray oi = true ∨ i ∈ (ancGo md l []).getD j []) := by
        intro j o hj hkj hjm hej hlj
        have hE : isEager ((m, .fre ls es) :: ms) k j = true := by
          simp only [isEager, Bool.or_eq_true, Bool.and_eq_true, decide_eq_true_eq, Bool.not_eq_true']
          exact .inl ⟨⟨⟨hkj, hjm⟩, hej⟩, hlj⟩
        refine ⟨fun i oi hi hji => ?_, fun i oi hi hki hij => ?_⟩
        · rcases hp i j oi o hi hj (by omega) hkj hji with ⟨_, _, hx1, _⟩ | ⟨hpp, h⟩
          · exact hx1 hE
          · exact h
        · rcases hp j i o oi hj hi hkj hki hij with ⟨_, _, _, hx2⟩ | ⟨hpp, _⟩
          · exact hx2 hE
          · have := isPure_le ms m l.length i hup hpp; omega
      intro fuel listed a w hu hf h
      obtain ⟨hQ, S, hS, h⟩ := h
      obtain ⟨v, hv0, hT⟩ := seqO_part h hkm hml
      have hv : ∀ i o, k ≤ i → i < m → l[i]? = some o → if ls.contains i = true then LooseOr P l.toArray Q S es i o (looseOf ls k ((l.drop k).take (i - k))) (FR l v a (fun j => decide (k ≤ j) && !ls.contains j) i) else StepIs P l.toArray Q S i o (v i) (FR l v a (fun j => decide (k ≤ j) && !ls.contains j) i) := by
        intro i o h1 h2 h3
        have := hv0 i o h1 h2 h3
        split
        · rename_i hc; rw [if_pos hc] at this; exact this
        · rename_i hc; rw [if_neg hc] at this; exact this.1
      have hve : ∀ i o, k ≤ i → i < m → l[i]? = some o → es.contains i = true → ls.contains i = false → Yields P l.toArray o (v i) (FR l v a (fun j => decide (k ≤ j) && !ls.contains j) i) ∧ ∀ L u w, S L u w → S (mark L i) u w := by
        intro i o h1 h2 h3 h4 h5
        have := hv0 i o h1 h2 h3
        rw [if_neg (by rw [h5]; simp)] at this
        exact this.2 h4
      have hFL : ∀ (u : Nat → Value) i, k ≤ i → i ≤ m → FR l (fun j => if ls.contains j = true then u j else v j) a (fun j => decide (k ≤ j)) i =
          (looseOf ls k ((l.drop k).take (i - k))).foldl (fun b e => b.put e.2 (u e.1)) (FR l v a (fun j => decide (k ≤ j) && !ls.contains j) i) := by
        intro u i0 hki0 him0
        have e := FR_loose (l := l) ls v u a k (i0 - k) (by omega) (fun i j oi oj hi hj hkj hji him hcj t ht hjt => by
          rcases hpr i j oi oj hi hj (by omega) hkj hji with ⟨_, h⟩ | ⟨_, _, _, h⟩ | h | ⟨h, _⟩
          · rcases h hkj (by omega) with h | h
            · rw [hcj] at h; cases h
            · rw [h.2.2] at ht; cases ht
          · exact (apart_symm h).2.1 t ht hjt
          · omega
          · omega)
        rw [show k + (i0 - k) = i0 by omega] at e
        exact e
      have hT' : ∀ L u w, (∀ j, j < m → L j = true) → S L u w → Ph P l Q ms m (FR l (fun j => if ls.contains j = true then u j else v j) a (fun j => decide (k ≤ j)) m) w := by
        intro L u w' hL hSw
        have := hT L u w' hL hSw
        rw [hFL u m hkm (Nat.le_refl _)]; exact this
      have := from_seq hc hml hQ hea hpr hnext hv hve hFL hT' fuel listed (fun _ => undef) w hu.size ?_ (hS _ _ fun j hj hjm => hu.left j hj (by omega)) (upTo_closed hc hu) hu.done (fun j hj hjl => hu.left j (by omega) hjl)
      · have e : FR l (fun j => if ls.contains j = true then (fun _ => undef) j else v j) a (fun j => decide (k ≤ j) && listed.getD j false) m = a := by
          have key : ∀ n, n ≤ m → FR l (fun j => if ls.contains j = true then (fun _ => undef) j else v j) a (fun j => decide (k ≤ j) && listed.getD j false) n = a := by
            intro n
            induction n with
            | zero => intro _; rfl
            | succ n ihn =>
              intro hn
              have : (decide (k ≤ n) && listed.getD n false) = false := by
                by_cases hkn : k ≤ n
                · rw [hu.left n hkn (by omega)]; simp
                · simp [hkn]
              simp only [FR, this]
              exact ihn (by omega)
          exact key m (Nat.le_refl _)
        rw [e] at this
        exact this
      · refine Nat.le_trans ?_ hf
        unfold unl
        have : ∀ n, n ≤ l.length → ((List.range n).filter fun j => !listed.getD j false).length ≤ n - k := by
          intro n
          induction n with
          | zero => intro _; simp
          | succ n ihn =>
            intro hn
            rw [List.range_succ, List.filter_append, List.length_append]
            have := ihn (by omega)
            by_cases hkn : k ≤ n
            · have h4 : (List.filter (fun j => !listed.getD j false) [n]).length ≤ 1 := List.length_filter_le _ _
              omega
            · have h3 := hu.done n (by omega)
              have h4 : (List.filter (fun j => !listed.getD j false) [n]).length = 0 := by rw [List.filter_cons, h3]; rfl
              omega
        exact this l.length (Nat.le_refl _)

/-- **A region that draws its order, walked once, by phases.** -/
theorem wp_region_ph {id : Nat} {a : Act} {w : World} (ms : List (Nat × PK)) (hm : P.follows .mixedOrders = true) (hchk : seqChk .any l ms = true)
    (h : Ph P l Q ms 0 a w.drew) : (Code.region id l.toArray true).wp P Q a w := by
  obtain ⟨hc, hup, hp⟩ := chkOk hchk
  refine wp_region_any hm ?_
  refine from_phases hc ms 0 hup hp l.toArray.size (Array.replicate l.toArray.size false) a w.drew ⟨by simp, fun j hj => by omega, fun j _ hj => ?_⟩ (by simp) h
  simp [Array.getElem?_replicate]; split <;> rfl

/-! ### The usual S: what stood is as it was; and the blocks that have been made, each with its cells -/
structure SAl (W : World) (al : List (Nat × List Value × TypeId)) (L : Nat → Bool) (u : Nat → Value) (w : World) : Prop where
  below : Below W.heap.size W w
  made : ∀ e ∈ al, L e.1 = true → ∃ g, u e.1 = .pointer (some ⟨g, 0, none⟩) ∧ W.heap.size ≤ g ∧ w.heap[g]? = some (.cells e.2.1.toArray e.2.2 (0, 0))
  ne : ∀ e ∈ al, ∀ e' ∈ al, L e.1 = true → L e'.1 = true → e.1 ≠ e'.1 → u e.1 ≠ u e'.1

theorem heap_lt {w : World} {g : Nat} {o : Obj} (h : w.heap[g]? = some o) : g < w.heap.size := (Array.getElem?_eq_some_iff.1 h).1

theorem SAl.start {W : World} {al : List (Nat × List Value × TypeId)} {k m : Nat} (hal : (al.all fun e => decide (k ≤ e.1) && decide (e.1 < m)) = true) {w : World} (hb : Below W.heap.size W w) (L : Nat → Bool) (u : Nat → Value) (hL : ∀ j, k ≤ j → j < m → L j = false) : SAl W al L u w := by
  simp only [List.all_eq_true, Bool.and_eq_true, decide_eq_true_eq] at hal
  have hf : ∀ e ∈ al, L e.1 = false := fun e he => hL _ (hal e he).1 (hal e he).2
  exact ⟨hb, fun e he h => by (rw [hf e he] at h; cases h), fun e he _ _ h => by (rw [hf e he] at h; cases h)⟩

theorem SAl.step {W : World} {al : List (Nat × List Value × TypeId)} {L : Nat → Bool} {u : Nat → Value} {w w' : World} (h : SAl W al L u w) (hb : Below w.heap.size w w') : SAl W al L u w' :=
  ⟨h.below.trans (hb.mono h.below.size), fun e he hL => by
    obtain ⟨g, h1, h2, h3⟩ := h.made e he hL
    exact ⟨g, h1, h2, by rw [hb.block g (heap_lt h3)]; exact h3⟩, h.ne⟩

theorem SAl.mark {W : World} {al : List (Nat × List Value × TypeId)} {L : Nat → Bool} {u : Nat → Value} {w : World} {i : Nat} (h : SAl W al L u w) (hi : (al.all fun e => e.1 != i) = true) : SAl W al (mark L i) u w := by
  simp only [List.all_eq_true, bne_iff_ne] at hi
  have hm : ∀ e ∈ al, Go.NP.mark L i e.1 = L e.1 := fun e he => by
    have := hi e he
    unfold Go.NP.mark
    have h2 : (e.1 == i) = false := by simpa using this
    rw [h2]; rfl
  exact ⟨h.below, fun e he hL => h.made e he (by rw [← hm e he]; exact hL), fun e he e' he' hL hL' => h.ne e he e' he' (by rw [← hm e he]; exact hL) (by rw [← hm e' he']; exact hL')⟩

theorem SAl.new {W : World} {al : List (Nat × List Value × TypeId)} {L : Nat → Bool} {u : Nat → Value} {w : World} {i : Nat} {cs : List Value} {T : TypeId} (h : SAl W al L u w) (hi : (al.all fun e => e.1 != i) = true) :
    SAl W ((i, cs, T) :: al) (Go.NP.mark L i) (upd u i (.pointer (some ⟨w.heap.size, 0, none⟩))) (w.alloc (.cells cs.toArray T)) := by
  have h0 : SAl W al L u (w.alloc (.cells cs.toArray T)) := h.step ((Below.refl _ _).alloc (Nat.le_refl _) _)
  have hm := h0.mark hi
  simp only [List.all_eq_true, bne_iff_ne] at hi
  have hu : ∀ e ∈ al, upd u i (.pointer (some ⟨w.heap.size, 0, none⟩)) e.1 = u e.1 := fun e he => by simp [upd, hi e he]
  have hself : upd u i (.pointer (some ⟨w.heap.size, 0, none⟩)) i = .pointer (some ⟨w.heap.size, 0, none⟩) := by simp [upd]
  have hne : ∀ e ∈ al, Go.NP.mark L i e.1 = true → (Value.pointer (some ⟨w.heap.size, 0, none⟩)) ≠ u e.1 := fun e he hL heq => by
    have h2 : (e.1 == i) = false := by simpa using hi e he
    have hL' : L e.1 = true := by simpa [Go.NP.mark, h2] using hL
    obtain ⟨g, h1, _, h3⟩ := h.made e he hL'
    rw [h1] at heq
    simp at heq
    have := heap_lt h3; omega
  refine ⟨h0.below, fun e he hL => ?_, fun e he e' he' hL hL' hd => ?_⟩
  · rcases List.mem_cons.1 he with rfl | he
    · refine ⟨w.heap.size, hself, h.below.size, ?_⟩
      show (w.heap.push _)[w.heap.size]? = _
      simp
    · obtain ⟨g, h1, h2⟩ := hm.made e he hL
      exact ⟨g, by rw [hu e he]; exact h1, h2⟩
  · rcases List.mem_cons.1 he with rfl | he <;> rcases List.mem_cons.1 he' with rfl | he'
    · exact absurd rfl hd
    · rw [hself, hu e' he']; exact hne e' he' hL'
    · rw [hself, hu e he]; exact fun h => hne e he hL h.symm
    · rw [hu e he, hu e' he']; exact hm.ne e he e' he' hL hL' hd

/-- What is said of fewer marks is said of more: an entry whose mark is not set yet may stand in the list. -/
theorem SAl.fill {W : World} {al : List (Nat × List Value × TypeId)} {L : Nat → Bool} {u : Nat → Value} {w : World} {i : Nat} {cs : List Value} {T : TypeId} (h : SAl W al L u w)
    (hone : ∀ e ∈ al, e.1 = i → e = (i, cs, T)) : SAl W al (Go.NP.mark L i) (upd u i (.pointer (some ⟨w.heap.size, 0, none⟩))) (w.alloc (.cells cs.toArray T)) := by
  have h0 : SAl W (al.filter fun e => e.1 != i) L u w := ⟨h.below, fun e he => h.made e (List.mem_filter.1 he).1, fun e he e' he' => h.ne e (List.mem_filter.1 he).1 e' (List.mem_filter.1 he').1⟩
  have h1 := h0.new (i := i) (cs := cs) (T := T) (by simp [List.all_eq_true])
  have hsub : ∀ e ∈ al, e ∈ (i, cs, T) :: (al.filter fun e => e.1 != i) := fun e he => by
    by_cases hei : e.1 = i
    · rw [hone e he hei]; simp
    · refine List.mem_cons_of_mem _ (List.mem_filter.2 ⟨he, by simpa using hei⟩)
  exact ⟨h1.below, fun e he => h1.made e (hsub e he), fun e he e' he' => h1.ne e (hsub e he) e' (hsub e' he')⟩

section steps
variable {ls es : List Nat} {T : List (Nat × Option Tmp) → Act → Prop} {ops : Array Oper} {o : Oper} {r : List Oper} {acc : List (Nat × Option Tmp)} {a : Act} {v : Value} {i : Nat} {W : World} {al : List (Nat × List Value × TypeId)}

theorem SeqO.val (hi : (!ls.contains i && !es.contains i && al.all fun e => e.1 != i) = true) (hw : Region.wanted o (yielded ops a.tmps) = true)
    (h1 : ∀ w, Below W.heap.size W w → (execOp a.eval o).run P w = .ok (.value v) w) (h2 : SeqO P ops Q (SAl W al) ls es T (i + 1) r acc (a.put o.dst v)) : SeqO P ops Q (SAl W al) ls es T i (o :: r) acc a := by
  simp only [Bool.and_eq_true, Bool.not_eq_true'] at hi
  unfold SeqO
  rw [if_neg (by rw [hi.1.1]; simp)]
  exact ⟨v, fun L u w hL hS K hK => by rw [if_pos hw]; simp only [Oper.wp, h1 w hS.below, Oper.upon]; exact hK w (hS.mark hi.2), fun h => by (rw [hi.1.2] at h; cases h), h2⟩
theorem SeqO.skip (hi : (!ls.contains i && !es.contains i && al.all fun e => e.1 != i) = true) (hw : Region.wanted o (yielded ops a.tmps) = false)
    (h2 : SeqO P ops Q (SAl W al) ls es T (i + 1) r acc (a.put o.dst undef)) : SeqO P ops Q (SAl W al) ls es T i (o :: r) acc a := by
  simp only [Bool.and_eq_true, Bool.not_eq_true'] at hi
  unfold SeqO
  rw [if_neg (by rw [hi.1.1]; simp)]
  exact ⟨undef, fun L u w hL hS K hK => by rw [if_neg (by rw [hw]; simp)]; exact hK w (hS.mark hi.2), fun h => by (rw [hi.1.2] at h; cases h), h2⟩
theorem SeqO.wp (hi : (!ls.contains i && !es.contains i && al.all fun e => e.1 != i) = true) (hw : Region.wanted o (yielded ops a.tmps) = true)
    (h1 : ∀ w, Below W.heap.size W w → ∀ K : Act → World → Prop, (∀ w', Below w.heap.size w w' → K (a.put o.dst v) w') → o.wp P a w K (QOut Q)) (h2 : SeqO P ops Q (SAl W al) ls es T (i + 1) r acc (a.put o.dst v)) : SeqO P ops Q (SAl W al) ls es T i (o :: r) acc a := by
  simp only [Bool.and_eq_true, Bool.not_eq_true'] at hi
  unfold SeqO
  rw [if_neg (by rw [hi.1.1]; simp)]
  exact ⟨v, fun L u w hL hS K hK => by rw [if_pos hw]; exact h1 w hS.below K (fun w' hb => hK w' ((hS.step hb).mark hi.2)), fun h => by (rw [hi.1.2] at h; cases h), h2⟩
/-- One that yields in every world, and that not all behind it wait for. -/
theorem SeqO.eager (hi : (!ls.contains i && al.all fun e => e.1 != i) = true) (hw : Region.wanted o (yielded ops a.tmps) = true)
    (h1 : ∀ w, (execOp a.eval o).run P w = .ok (.value v) w) (h2 : SeqO P ops Q (SAl W al) ls es T (i + 1) r acc (a.put o.dst v)) : SeqO P ops Q (SAl W al) ls es T i (o :: r) acc a := by
  simp only [Bool.and_eq_true, Bool.not_eq_true'] at hi
  unfold SeqO
  rw [if_neg (by rw [hi.1]; simp)]
  exact ⟨v, fun L u w hL hS K hK => by rw [if_pos hw]; simp only [Oper.wp, h1 w, Oper.upon]; exact hK w (hS.mark hi.2), fun _ => ⟨.inl ⟨hw, h1⟩, fun L u w h => h.mark hi.2⟩, h2⟩
/-- A new block. -/
theorem SeqO.alloc {cs : List Value} {Ty : TypeId} (hi : (ls.contains i && !es.contains i) = true) (hin : ∃ T, (i, cs, T) ∈ al) (hone : (al.all fun e => e.1 != i || e.2.2 == Ty) = true) (hone' : ∀ e ∈ al, e.1 = i → e.2.1 = cs) (hw : Region.wanted o (yielded ops a.tmps) = true)
    (h1 : ∀ w, (execOp a.eval o).run P w = .ok (.value (.pointer (some ⟨w.heap.size, 0, none⟩))) (w.alloc (.cells cs.toArray Ty)))
    (h2 : SeqO P ops Q (SAl W al) ls es T (i + 1) r (acc ++ [(i, o.dst)]) a) : SeqO P ops Q (SAl W al) ls es T i (o :: r) acc a := by
  simp only [Bool.and_eq_true, Bool.not_eq_true'] at hi
  unfold SeqO
  rw [if_pos hi.1]
  unfold LooseOr
  rw [if_neg (by rw [hi.2]; simp)]
  refine ⟨fun L u w hL hS K hK => ?_, h2⟩
  rw [if_pos hw]; simp only [Oper.wp, h1 w, Oper.upon]
  obtain ⟨T', hin⟩ := hin
  simp only [List.all_eq_true, Bool.or_eq_true, bne_iff_ne, beq_iff_eq] at hone
  have hT' : T' = Ty := by rcases hone _ hin with h | h
                           · exact absurd rfl h
                           · exact h
  subst hT'
  refine hK _ _ (hS.fill fun e he hei => ?_)
  have h3 := hone' e he hei
  have h4 : e.2.2 = T' := by rcases hone e he with h | h
                             · exact absurd hei h
                             · exact h
  obtain ⟨e1, e2, e3⟩ := e
  simp only at hei h3 h4
  rw [hei, h3, h4]
theorem SeqO.nil {m : Nat} {ms : List (Nat × PK)} {l : List Oper} (h : ∀ L u w', (∀ j, j < m → L j = true) → SAl W al L u w' → Ph P l Q ms m (acc.foldl (fun b e => b.put e.2 (u e.1)) a) w') :
    SeqO P ops Q (SAl W al) ls es (fun acc a' => ∀ L u w', (∀ j, j < m → L j = true) → SAl W al L u w' → Ph P l Q ms m (acc.foldl (fun b e => b.put e.2 (u e.1)) a') w') i [] acc a := h
theorem SeqO.nil0 {m : Nat} {ms : List (Nat × PK)} {l : List Oper} (h : ∀ w', Below W.heap.size W w' → Ph P l Q ms m a w') :
    SeqO P ops Q (SAl W al) ls es (fun acc a' => ∀ L u w', (∀ j, j < m → L j = true) → SAl W al L u w' → Ph P l Q ms m (acc.foldl (fun b e => b.put e.2 (u e.1)) a') w') i [] [] a :=
  fun _ _ w' _ hS => h w' hS.below
end steps
theorem execOp_call_val {a : Act} {dst : Option Tmp} {x : Operand} {f : FuncId} {ca : Array Value} {xs : Array Operand} {ats : Array TypeId} {ty : TypeId} {pos : String} {after : Array Edge} {guard : Option (Nat × Bool)} (hx : a.eval x = .func (.func f) #[] ca) :
    execOp a.eval { dst, op := .call { callee := .value x, args := xs, argTypes := ats }, type := ty, pos, after, guard } = callFunc f (#[] ++ xs.map a.eval ++ ca) := by
  simp only [execOp, resolve, hx]; rfl
/-- A call of a function, by its name or out of a slot. -/
theorem SeqO.callv {ls es : List Nat} {T : List (Nat × Option Tmp) → Act → Prop} {ops : Array Oper} {r : List Oper} {acc : List (Nat × Option Tmp)} {a : Act} {v : Value} {i : Nat} {W : World} {al : List (Nat × List Value × TypeId)}
    {dst : Option Tmp} {x : Operand} {f : FuncId} {ca : Array Value} {xs : Array Operand} {ats : Array TypeId} {ty : TypeId} {pos : String} {after : Array Edge} {guard : Option (Nat × Bool)} {args : Array Value}
    (hi : (!ls.contains i && !es.contains i && al.all fun e => e.1 != i) = true)
    (hw : Region.wanted { dst, op := .call { callee := .value x, args := xs, argTypes := ats }, type := ty, pos, after, guard } (yielded ops a.tmps) = true) (hx : a.eval x = .func (.func f) #[] ca)
    (hcf : ∀ args w1, (callFunc f args).run P w1 = .ok (.enter f args) w1) (hargs : #[] ++ xs.map a.eval ++ ca = args)
    (h3 : ∀ w, Below W.heap.size W w → Calls P f args w fun e w' => e = .returned v ∧ Below w.heap.size w w') (h2 : SeqO P ops Q (SAl W al) ls es T (i + 1) r acc (a.put dst v)) : SeqO P ops Q (SAl W al) ls es T i ({ dst, op := .call { callee := .value x, args := xs, argTypes := ats }, type := ty, pos, after, guard } :: r) acc a :=
  SeqO.wp hi hw (fun w hS K hK => by
    simp only [Oper.wp, execOp_call_val hx, hcf, hargs, Oper.upon]
    refine (h3 w hS).mono fun e w' ⟨he, hS'⟩ => ?_
    subst he; exact hK w' hS') h2

theorem Ph.below {m : Nat} {ms : List (Nat × PK)} {k : Nat} {a : Act} {w : World}
    (h : SeqO P l.toArray Q (SAl w []) [] [] (fun acc a' => ∀ L u w', (∀ j, j < m → L j = true) → SAl w [] L u w' → Ph P l Q ms m (acc.foldl (fun b e => b.put e.2 (u e.1)) a') w') k ((l.drop k).take (m - k)) [] a) :
    Ph P l Q ((m, .free []) :: ms) k a w := ⟨fun _ _ _ h => (by cases h), _, fun L u hL => SAl.start (k := k) (m := m) rfl (Below.refl _ _) L u hL, h⟩
theorem Ph.belowd {m : Nat} {ms : List (Nat × PK)} {k : Nat} {a : Act} {w : World}
    (h : SeqO P l.toArray Q (SAl w []) [] [] (fun acc a' => ∀ L u w', (∀ j, j < m → L j = true) → SAl w [] L u w' → Ph P l Q ms m (acc.foldl (fun b e => b.put e.2 (u e.1)) a') w') k ((l.drop k).take (m - k)) [] a) :
    Ph P l Q ((m, .free []) :: ms) k a w.drew := ⟨fun _ _ _ h => (by cases h), _, fun L u hL => SAl.start (k := k) (m := m) rfl (Below.refl _ _).drew L u hL, h⟩
theorem Ph.made {m : Nat} {ls : List Nat} {ms : List (Nat × PK)} {k : Nat} {a : Act} {w : World} (al : List (Nat × List Value × TypeId)) (hal : (al.all fun e => decide (k ≤ e.1) && decide (e.1 < m)) = true)
    (h : SeqO P l.toArray Q (SAl w al) ls [] (fun acc a' => ∀ L u w', (∀ j, j < m → L j = true) → SAl w al L u w' → Ph P l Q ms m (acc.foldl (fun b e => b.put e.2 (u e.1)) a') w') k ((l.drop k).take (m - k)) [] a) :
    Ph P l Q ((m, .free ls) :: ms) k a w := ⟨fun _ _ _ h => (by cases h), _, fun L u hL => SAl.start hal (Below.refl _ _) L u hL, h⟩
theorem Ph.maded {m : Nat} {ls : List Nat} {ms : List (Nat × PK)} {k : Nat} {a : Act} {w : World} (al : List (Nat × List Value × TypeId)) (hal : (al.all fun e => decide (k ≤ e.1) && decide (e.1 < m)) = true)
    (h : SeqO P l.toArray Q (SAl w al) ls [] (fun acc a' => ∀ L u w', (∀ j, j < m → L j = true) → SAl w al L u w' → Ph P l Q ms m (acc.foldl (fun b e => b.put e.2 (u e.1)) a') w') k ((l.drop k).take (m - k)) [] a) :
    Ph P l Q ((m, .free ls) :: ms) k a w.drew := ⟨fun _ _ _ h => (by cases h), _, fun L u hL => SAl.start hal (Below.refl _ _).drew L u hL, h⟩
/-- The same, some being eager. -/
theorem Ph.eagerd {m : Nat} {ls es : List Nat} {ms : List (Nat × PK)} {k : Nat} {a : Act} {w : World} (al : List (Nat × List Value × TypeId)) (hal : (al.all fun e => decide (k ≤ e.1) && decide (e.1 < m)) = true)
    (hQ : ∀ d c a v w, Q (.panic c) (Act.put a d v) w → Q (.panic c) a w)
    (h : SeqO P l.toArray Q (SAl w al) ls es (fun acc a' => ∀ L u w', (∀ j, j < m → L j = true) → SAl w al L u w' → Ph P l Q ms m (acc.foldl (fun b e => b.put e.2 (u e.1)) a') w') k ((l.drop k).take (m - k)) [] a) :
    Ph P l Q ((m, .fre ls es) :: ms) k a w.drew := ⟨fun _ o _ _ => hQ o.dst, _, fun L u hL => SAl.start hal (Below.refl _ _).drew L u hL, h⟩
theorem Ph.list {m : Nat} {ms : List (Nat × PK)} {k : Nat} {a : Act} {w : World} (h : wpList P l.toArray (Exit.then (Ph P l Q ms m) Q) ((l.drop k).take (m - k)) a w) : Ph P l Q ((m, .seq) :: ms) k a w := h
theorem Ph.pur {m : Nat} {ms : List (Nat × PK)} {k : Nat} {o : Oper} {v : Value} {a : Act} {w : World} (hm : m = k + 1) (ho : l[k]? = some o) (hQ : ∀ c a v w, Q (.panic c) (a.put o.dst v) w → Q (.panic c) a w)
    (hw : Region.wanted o (yielded l.toArray a.tmps) = true) (hy : ∀ w, (execOp a.eval o).run P w = .ok (.value v) w) (h : Ph P l Q ms m (a.put o.dst v) w) : Ph P l Q ((m, .pure) :: ms) k a w := ⟨hm, o, v, ho, hQ, .inl ⟨hw, hy⟩, h⟩
theorem Ph.last {k : Nat} {a : Act} {w : World} (h : wpList P l.toArray Q (l.drop k) a w) : Ph P l Q [] k a w := h
end main

theorem below_step {W w1 w2 : World} (h : Below W.heap.size W w1) (h2 : Below w1.heap.size w1 w2) : Below W.heap.size W w2 := h.trans (h2.mono h.size)
theorem bcell {B : Nat} {W w1 : World} (hb : Below B W w1) : (∀ b o, b < B → w1.cell? ⟨b, o, none⟩ = W.cell? ⟨b, o, none⟩) ∧ (∀ b o, b < B → w1.frozen? ⟨b, o, none⟩ = W.frozen? ⟨b, o, none⟩) :=
  ⟨fun b o h => hb.cell (p := ⟨b, o, none⟩) h, fun b o h => hb.frozen (p := ⟨b, o, none⟩) h⟩
/-- The call returns v, and leaves what stood as it was. -/
def RetB (P : Program) (f : FuncId) (args : Array Value) (w : World) (v : Value) : Prop := Calls P f args w fun e w' => e = .returned v ∧ Below w.heap.size w w'
theorem RetB.use {W w : World} {f : FuncId} {args : Array Value} {v : Value} (h : RetB P f args w v) (hS : Below W.heap.size W w) : Calls P f args w fun e w' => e = .returned v ∧ Below W.heap.size W w' :=
  Calls.mono h fun _ _ ⟨he, hb⟩ => ⟨he, below_step hS hb⟩
theorem RetB.eq {w : World} {f : FuncId} {args : Array Value} {v v' : Value} (h : RetB P f args w v) (e : v = v') : RetB P f args w v' := e ▸ h
theorem enters {f : FuncId} {fn : Func} (hf : P.funcs[f]? = some fn) (hn : (fn.name == "runtime.NumGoroutine") = false) (hb : fn.body.isSome = true) (args : Array Value) (w : World) :
    (callFunc f args).run P w = .ok (.enter f args) w := by
  have h1 : fn.name ≠ "runtime.NumGoroutine" := by simpa using hn
  obtain ⟨c, hc⟩ := Option.isSome_iff_exists.1 hb
  simp [callFunc, hf, h1, hc]
end
end Go.NP
