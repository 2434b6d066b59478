/- What is found in a tree: the walk. Condition: the tree is there; the question is asked of bounds alone. Contracts of the library at this program, printed by the kit's tools. No condition. Integers of one's own sorted by the library: the contract turned. Condition: they are not many. Whom a bound meets: Meet, its walk. Condition: the tree is there. -/
import Derived.Test.YtbcjnckejkjfeaaGreatQao
import Derived.Test.YtbcjnckejkjfeaaGreatQap
import Derived.Shelf.SlSortCmp.NoneTotal
import Derived.Ground.SlsfProg
import Derived.Shelf.SlGeneric
import Derived.Shelf.Small.Bits
import Derived.Shelf.Small.Wraps
import Derived.Shelf.Strconv.Itoa0
import Derived.Shelf.Sort.Plain
import Derived.Shelf.Bits.Mul64
import Derived.Shelf.Slices.In.SortNone
import Derived.Test.YtbcjnckejkjfeaaGreatProg
import Derived.Test.YtbcjnckejkjfeaaGreatQag
namespace Go.Proofs.YtbcjnckejkjfeaaGreat
set_option linter.unusedVariables false
set_option linter.unusedSimpArgs false
open Go.RowKit Go.NP
namespace TFd
open TrP TrW TrC TrA TrF TrG TrX TrY TrK THg TCt QVl TrE TrI TFp
theorem cfS (args : Array Value) (w1 : World) : (callFunc 63 args).run Tryz.prog w1 = .ok (.enter 63 args) w1 := enters Tryz.func63 (by kernel_rfl) (by kernel_rfl) args w1
section
variable {ops : Array Oper} {r : List Oper} {o : Oper} {a : Act} {Q : Exit → Act → World → Prop} {w : World} {base g : Nat} {v t t2 : Value} {l : List Value} {S T : TypeId} {z : Value} {by_ : Nat}
/-- Two appended. -/
theorem wpV_app2 (hu : Tryz.prog.underlying S = some (.slice T)) (hi : (Tryz.prog.info? T).map (fun i => (i.zero, i.size, i.bytes)) = some (some z, 1, by_)) (hzs : z.cells.size = 1) (hby : by_ ≤ 24) (hgd : o.guard = none) (s x : Operand)
    (ho : o.op = .call { callee := .builtin .append, args := #[s, x], argTypes := #[S, S] }) (hs : a.eval s = v) (hown : OwnV w base T v l) (hx : a.eval x = .slice (some ⟨g, 0, none⟩) 2 2) (hat : w.cell? ⟨g, 0, none⟩ = some t) (hat2 : w.cell? ⟨g, 1, none⟩ = some t2) (h1 : t.oneCell' = true) (h2 : t2.oneCell' = true) (hl : l.length ≤ 1000000) (hb : base ≤ w.heap.size)
    (h : ∀ v' w', OwnV w' base T v' (l ++ [t, t2]) → w.grownBy w' v.ownBlock → (v'.ownBlock = v.ownBlock ∨ v'.ownBlock = some w.heap.size) → (∀ w0, Below base w0 w → Below base w0 w') → wpList Tryz.prog ops Q r (a.put o.dst v') w') : wpList Tryz.prog ops Q (o :: r) a w := by
  obtain ⟨i0, hi0, hz0, hz1, hz2⟩ := info_parts hi
  refine wpList_append_own_at _ hgd s x S ho base T i0 z 1 by_ hu hi0 hz0 hz1 hz2 hzs (by decide) v l.length l hs hown ⟨g, 0, none⟩ 2 2 [t, t2] hx rfl (fun j u hj => ?_) (fun u hu => ?_) (by unfold maxLen; omega) ?_ hb ?_
  · have hj0 : j < 2 := get_lt hj
    rcases (by omega : j = 0 ∨ j = 1) with rfl | rfl
    · cases hj; exact hat
    · cases hj; exact hat2
  · rcases List.mem_cons.1 hu with rfl | hu
    · exact h1
    · obtain rfl := List.mem_singleton.1 hu; exact h2
  · have := Nat.mul_le_mul_left (l.length + 2) hby; omega
  · intro v' w' h1 h2 _ h4
    refine h v' w' ?_ h2 h4 fun w0 hB => hB.grown h2 hb fun k hk => (hown.lt k hk).1
    unfold OwnV
    rw [List.length_append]
    exact h1
end
/-- While it is looked for. -/
structure FS (B : Nat) (m : M) (N K : Nat) (q : Bd → Bool) (R : List Int) (wr : World) (o s : Value) (ss : List (Option Tr)) (ol : List Int) : Prop where
  st : OwnV wr B 3 s (iv (ss.map ixo))
  ou : OwnV wr B 3 o (iv ol)
  ne : ∀ k, s.ownBlock = some k → o.ownBlock ≠ some k
  items : ∀ x ∈ ss, ItOK m N x
  eq : ol ++ rest m q ss = R
  small : szs ss ≤ K
theorem iv_snoc (l : List Int) (x : Int) : iv (l ++ [x]) = iv l ++ [.int .i64 x] := by simp [iv]
theorem iv_append (l m : List Int) : iv (l ++ m) = iv l ++ iv m := List.map_append
theorem iv_two (l : List Int) (x y : Int) : iv (l ++ [x, y]) = iv l ++ [.int .i64 x, .int .i64 y] := by simp [iv]
/-- The measure: what is still to be looked at. -/
def PF (B : Nat) (m : M) (N K : Nat) (q : Bd → Bool) (R : List Int) (wr : World) (o s : Value) (n : Nat) : Prop := ∃ ss ol, FS B m N K q R wr o s ss ol ∧ szs ss = n
theorem PF.ex {B : Nat} {m : M} {N K : Nat} {q : Bd → Bool} {R : List Int} {wr : World} {o s : Value} {n : Nat} (h : PF B m N K q R wr o s n) : ∃ ss ol, FS B m N K q R wr o s ss ol ∧ szs ss = TrG.least (PF B m N K q R wr o s) := (TrG.least_ok h).1
theorem PF.le {B : Nat} {m : M} {N K : Nat} {q : Bd → Bool} {R : List Int} {wr : World} {o s : Value} {ss : List (Option Tr)} {ol : List Int} (h : FS B m N K q R wr o s ss ol) : TrG.least (PF B m N K q R wr o s) ≤ szs ss := (TrG.least_ok (P := PF B m N K q R wr o s) (n := szs ss) ⟨ss, ol, h, rfl⟩).2 _ ⟨ss, ol, h, rfl⟩
/-- The stack, when something is on it. -/
theorem FS.pop {B : Nat} {m : M} {N K : Nat} {q : Bd → Bool} {R : List Int} {wr : World} {o s : Value} {ss : List (Option Tr)} {x : Option Tr} {ol : List Int} (h : FS B m N K q R wr o s (ss ++ [x]) ol) :
    ∃ g cap, s = .slice (some ⟨g, 0, none⟩) (ss.length + 1) cap ∧ g < wr.heap.size ∧ ss.length + 1 ≤ cap ∧ wr.cell? ⟨g, ss.length, none⟩ = some (.int .i64 (ixo x)) ∧ OwnV wr B 3 (.slice (some ⟨g, 0, none⟩) ss.length cap) (iv (ss.map ixo)) := by
  have hst := h.st
  rw [List.map_append, List.map_cons, List.map_nil, iv_snoc] at hst
  have hl : (iv (ss.map ixo)).length = ss.length := by rw [iv_len, List.length_map]
  obtain ⟨A, cap, e, hs, hA, hc⟩ := hst.sl
  rw [List.length_append, List.length_singleton, hl] at e hs hc
  rcases hA with ⟨_, _, e2⟩ | ⟨g, rfl⟩
  · simp at e2
  · obtain ⟨b, off, e3, hb, hcell⟩ := hs.2 (by omega)
    cases e3
    refine ⟨g, cap, e, hb, hc, ?_, ?_⟩
    · have := hcell ss.length (.int .i64 (ixo x)) (by rw [List.getElem?_append_right (by omega), hl, Nat.sub_self]; rfl)
      rwa [Nat.zero_add] at this
    · rw [e] at hst
      exact OwnV.cut hst hl
theorem FS.step {B : Nat} {m : M} {N K : Nat} {q : Bd → Bool} {R : List Int} {wr w' : World} {o s : Value} {ss : List (Option Tr)} {ol : List Int} (h : FS B m N K q R wr o s ss ol) (hS : Below wr.heap.size wr w') : FS B m N K q R w' o s ss ol := ⟨h.st.step hS, h.ou.step hS, h.ne, h.items, h.eq, h.small⟩
/-- What tells nothing is taken off. -/
theorem FS.drop {B : Nat} {m : M} {N K g cap n : Nat} {q : Bd → Bool} {R : List Int} {wr : World} {o : Value} {ss : List (Option Tr)} {x : Option Tr} {ol : List Int} (h : FS B m N K q R wr o (.slice (some ⟨g, 0, none⟩) (n + 1) cap) (ss ++ [x]) ol) (hp : OwnV wr B 3 (.slice (some ⟨g, 0, none⟩) n cap) (iv (ss.map ixo))) (hx : outO m q x = []) :
    FS B m N K q R wr o (.slice (some ⟨g, 0, none⟩) n cap) ss ol ∧ szs ss < szs (ss ++ [x]) := by
  have h1 := szs_snoc ss x; have h2 := szo_pos x; have h3 := h.small
  refine ⟨⟨hp, h.ou, fun k hk => h.ne k hk, fun y hy => h.items y (List.mem_append_left _ hy), ?_, by omega⟩, by omega⟩
  have := h.eq
  rw [rest_snoc, hx] at this
  exact this
/-- One more is found. -/
theorem FS.found {B : Nat} {m : M} {N K g cap n : Nat} {q : Bd → Bool} {R : List Int} {wr w' : World} {o o' : Value} {ss : List (Option Tr)} {x : Option Tr} {ol : List Int} {y : Int} (h : FS B m N K q R wr o (.slice (some ⟨g, 0, none⟩) (n + 1) cap) (ss ++ [x]) ol) (hp : OwnV w' B 3 (.slice (some ⟨g, 0, none⟩) n cap) (iv (ss.map ixo))) (ho : OwnV w' B 3 o' (iv (ol ++ [y]))) (hn : o'.ownBlock ≠ some g) (hx : outO m q x = [y]) :
    FS B m N K q R w' o' (.slice (some ⟨g, 0, none⟩) n cap) ss (ol ++ [y]) ∧ szs ss < szs (ss ++ [x]) := by
  have h1 := szs_snoc ss x; have h2 := szo_pos x; have h3 := h.small
  refine ⟨⟨hp, ho, fun k hk => ?_, fun y hy => h.items y (List.mem_append_left _ hy), ?_, by omega⟩, by omega⟩
  · have : g = k := by simpa [Value.ownBlock] using hk
    rw [← this]; exact hn
  · have := h.eq
    rw [rest_snoc, hx] at this
    rw [List.append_assoc]; exact this
/-- Two are put on for one. -/
theorem FS.push {B : Nat} {m : M} {N K : Nat} {q : Bd → Bool} {R : List Int} {wr w' : World} {o s s' : Value} {ss : List (Option Tr)} {i : Int} {l r : Tr} {ol : List Int} (h : FS B m N K q R wr o s (ss ++ [some (.node i l r)]) ol) (hs : OwnV w' B 3 s' (iv ((ss ++ [some l, some r]).map ixo))) (ho : OwnV w' B 3 o (iv ol)) (hn : ∀ k, s'.ownBlock = some k → o.ownBlock ≠ some k) (hx : q (m i).fat = true) :
    FS B m N K q R w' o s' (ss ++ [some l, some r]) ol ∧ szs (ss ++ [some l, some r]) < szs (ss ++ [some (.node i l r)]) := by
  have h1 := szs_two ss i l r; have h3 := h.small
  have hi := (h.items _ (List.mem_append_right _ (List.mem_singleton.2 rfl))).two
  refine ⟨⟨hs, ho, hn, fun y hy => ?_, by rw [rest_two hx]; exact h.eq, by omega⟩, by omega⟩
  rcases List.mem_append.1 hy with hy | hy
  · exact h.items y (List.mem_append_left _ hy)
  · rcases List.mem_cons.1 hy with rfl | hy
    · exact hi.1
    · rw [List.mem_singleton.1 hy]; exact hi.2
/-- What the library's Sort does to integers of one's own. -/
def SortOK : Prop := ∀ (base : Nat) (v : Value) (l : List Int) (w : World), OwnV w base 3 v (iv l) → l.length ≤ 100000 → Calls Tryz.prog 63 #[v] w fun e w' => e = .returned (.tuple #[]) ∧ (∃ r : List Int, r.Perm l ∧ r.Pairwise (· ≤ ·) ∧ OwnV w' base 3 v (iv r)) ∧ ∀ w0, Below base w0 w → Below base w0 w'
set_option maxRecDepth 100000 in
set_option maxHeartbeats 8000000 in
theorem findC (hsrt : SortOK) {T : Tn} {K fid : Nat} {ca : Array Value} {q : Bd → Bool} {x0 : Option Tr} (w : World) (htop : w.cell? ⟨T.p, 4, none⟩ = some (.int .i64 (ixo x0))) (hp : T.p < w.heap.size) (hT : 0 < T.N → TN w T) (hI : ItOK T.m T.N x0) (hK : szo x0 ≤ K) (hK2 : K ≤ 90000)
    (cff : ∀ args w1, (callFunc fid args).run Tryz.prog w1 = .ok (.enter fid args) w1) (hq : ∀ (b : Bd) (u : World), Below w.heap.size w u → RetB Tryz.prog fid (#[.agg #[.int .i64 b.lo.x, .int .i64 b.lo.y, .int .i64 b.lo.z, .int .i64 b.hi.x, .int .i64 b.hi.y, .int .i64 b.hi.z]] ++ ca) u (.bool (q b))) :
    Calls Tryz.prog 36 #[.pointer (some ⟨T.p, 0, none⟩), .func (.func fid) #[] ca] w fun e w' => (∃ v, e = .returned v ∧ ∃ r : List Int, r.Perm (outO T.m q x0) ∧ r.Pairwise (· ≤ ·) ∧ OwnV w' w.heap.size 3 v (iv r)) ∧ Below w.heap.size w w' := by
  obtain ⟨R, hR⟩ : ∃ R, outO T.m q x0 = R := ⟨_, rfl⟩
  have hRl : R.length ≤ K := by
    rw [← hR]
    cases x0 with
    | none => exact Nat.zero_le _
    | some t => exact Nat.le_trans (out_len t) hK
  rw [hR]
  have HTN := Lib.hid hT; have HI := Lib.hid hI; have HQ := Lib.hid hq
  clear hT hI hq
  go_enter Tryz.func36, Tryz.ntmps36
  go_wp2_with fail
  have hW1 : Below w.heap.size w (w.alloc (.cells [.int .i64 (ixo x0)].toArray 3)) := (Below.refl _ _).alloc (Nat.le_refl _) _
  have F1 : FS w.heap.size T.m T.N K q R (w.alloc (.cells [.int .i64 (ixo x0)].toArray 3)) (.slice none 0 0) (.slice (some ⟨w.heap.size, 0, none⟩) 1 1) [x0] [] :=
    ⟨QVl.own_new w 3 [.int .i64 (ixo x0)] (by simp), OwnV.nil _ _ _, fun k _ e => (by cases e), fun x hx => by rw [List.mem_singleton.1 hx]; exact HI.out, by rw [show [x0] = [] ++ [x0] from rfl, rest_snoc]; simpa [rest] using hR, by show szo x0 + 0 ≤ K; omega⟩
  revert hW1 F1
  generalize w.alloc (.cells [.int .i64 (ixo x0)].toArray 3) = w1
  intro hW1 F1
  obtain ⟨B, hB⟩ : ∃ B, w.heap.size = B := ⟨_, rfl⟩
  rw [hB] at F1 ⊢
  go_loopw [5, 6] (fun o s wr => (∃ n, PF B T.m T.N K q R wr o s n) ∧ Below w.heap.size w wr) (fun o s wr => TrG.least (PF B T.m T.N K q R wr o s))
  case atStart => exact ⟨⟨_, _, _, F1, rfl⟩, hW1⟩
  case round =>
    clear hW1 F1 w1
    obtain ⟨⟨n0, hp0⟩, hS⟩ := hrel
    obtain ⟨ss, ol, hF, hlen⟩ := hp0.ex
    clear hp0
    have hBw : B ≤ wr.heap.size := by rw [← hB]; exact hS.size
    have HF := Lib.hid hF; have HLEN := Lib.hid hlen; have HSr := Lib.hid hS
    clear hlen
    rcases List.eq_nil_or_concat ss with rfl | ⟨ss, x, rfl⟩
    · have e0 : ∃ A cap, u6 = .slice A 0 cap := by
        obtain ⟨A, cap, e, _⟩ := hF.st.sl
        exact ⟨A, cap, e⟩
      obtain ⟨A, cap, e0⟩ := e0
      have hol : ol = R := by have := hF.eq; simpa [rest] using this
      have hO := hF.ou
      rw [hol] at hO
      clear hF HF HLEN
      subst e0
      go_wp2_with fail
      refine (hsrt B u5 R wr hO (by omega)).mono ?_
      rintro e w2 ⟨rfl, ⟨r, hr1, hr2, hr3⟩, hb⟩
      have FIN := Lib.hid (show (∃ v, Ending.returned u5 = .returned v ∧ ∃ r : List Int, r.Perm R ∧ r.Pairwise (· ≤ ·) ∧ OwnV w2 w.heap.size 3 v (iv r)) ∧ Below w.heap.size w w2 from ⟨⟨u5, rfl, r, hr1, hr2, by rw [hB]; exact hr3⟩, by have := hb w (by rw [← hB]; exact HSr.out); rw [← hB] at this; exact this⟩)
      clear hr3 hb hO hS
      go_wp2_with fail
      exact bodyPost_ret (v := u5) (by simp [results, Tryz.results36, go_sem]) rfl FIN.out
    · rw [List.concat_eq_append] at *
      obtain ⟨gs, cap, rfl, hgs, hcap, hcell, hpop⟩ := hF.pop
      obtain ⟨n, hn⟩ : ∃ n, ss.length = n := ⟨_, rfl⟩
      rw [hn] at hcap hcell hpop ⊢
      have v1 : IntKind.i64.wrap (n : Int) = n := by
        have h1 := hF.small; have h2 := szs_len (ss ++ [x])
        rw [List.length_append, hn] at h2
        rw [IntKind.wrap_i64]; omega
      have HPOP := Lib.hid hpop; have HN := Lib.hid hn
      have FIN := Lib.hid (fun (o s : Value) (w' : World) (ss' : List (Option Tr)) (ol' : List Int) (hf : FS B T.m T.N K q R w' o s ss' ol' ∧ szs ss' < szs (ss ++ [x])) (hb : Below w.heap.size w w') => (show ((∃ n, PF B T.m T.N K q R w' o s n) ∧ Below w.heap.size w w') ∧ TrG.least (PF B T.m T.N K q R w' o s) < TrG.least (PF B T.m T.N K q R wr u5 (.slice (some ⟨gs, 0, none⟩) (n + 1) cap)) from
        ⟨⟨⟨_, _, _, hf.1, rfl⟩, hb⟩, by have h1 := PF.le hf.1; have h2 := HLEN.out; rw [hn] at h2; omega⟩))
      rw [hn] at HF
      clear hpop hF hS
      cases x with
      | none =>
        simp only [ixo] at hcell
        have e1 : ((-1 : Int) == -1) = true := by decide
        go_wp2_with fail
        exact FIN.out _ _ _ _ _ (FS.drop HF.out HPOP.out rfl) HSr.out
      | some t =>
        obtain ⟨⟨u, hrep⟩, hfit, hrng⟩ := HF.out.items _ (List.mem_append_right _ (List.mem_singleton.2 rfl))
        have htr := hrng t.ix t.ix_all
        obtain ⟨k, hk⟩ : ∃ n : Nat, t.ix = n := ⟨t.ix.toNat, by omega⟩
        have kN : k < T.N := by omega
        have hTr := (HTN.out (by omega)).step HSr.out
        have c2 := hTr.nodes
        have e1 : ((k : Int) == -1) = false := by simp only [beq_eq_false_iff_ne, ne_eq]; omega
        have k0 : 0 ≤ (k : Int) ∧ (k : Int) < T.N := by omega
        simp only [ixo] at hcell
        rw [hk] at hcell
        have lp := (TN.lt hTr).1
        have lg := (TN.lt hTr).2
        have hat := TrK.fatAt hTr kN
        obtain ⟨f, hf⟩ : ∃ f, (T.m k).fat = f := ⟨_, rfl⟩
        rw [hf] at hat
        go_wp2_with (refine wpL_at (l := [.int .i64 f.lo.x, .int .i64 f.lo.y, .int .i64 f.lo.z, .int .i64 f.hi.x, .int .i64 f.hi.y, .int .i64 f.hi.z]) (by rfl) (by rfl) hat Tryz.underlying38 (by rfl) (by kernel_rfl) (by kernel_rfl) ?_; (conv => arg 5; simp only [Act.put, List.setIfInBounds_toArray, List.set_cons_zero, List.set_cons_succ]))
        refine (HQ.out f wr HSr.out).mono ?_
        rintro e w2 ⟨rfl, hS2⟩
        have hW2 := HSr.out.trans (hS2.mono HSr.out.size)
        have hT2 := hTr.step hS2
        have HF2 := Lib.hid (HF.out.step hS2)
        have HP2 := Lib.hid (HPOP.out.step hS2)
        have HW2 := Lib.hid hW2
        have hBw2 : B ≤ w2.heap.size := by rw [← hB]; exact hW2.size
        clear hat c2 lp lg hcell hTr HF HPOP hS2 hW2 hgs hBw
        cases hqf : q f with
        | false =>
          clear hT2
          go_wp2_with fail
          exact FIN.out _ _ _ _ _ (FS.drop HF2.out HP2.out (out_no (by rw [hk, hf]; exact hqf))) HW2.out
        | true =>
          have c2 := hT2.nodes
          have lp := (TN.lt hT2).1
          have lg := (TN.lt hT2).2
          have hat := TN.at hT2 kN
          obtain ⟨x, hx⟩ : ∃ x, T.m k = x := ⟨_, rfl⟩
          rw [hx] at hat
          have BN : Box (w2.alloc (.cells (ndv x).toArray 73)) w2.heap.size (ndv x) 73 := Box.new rfl
          have hS3 : Below w2.heap.size w2 (w2.alloc (.cells (ndv x).toArray 73)) := (Below.refl _ _).alloc (Nat.le_refl _) _
          have c12 : (w2.alloc (.cells (ndv x).toArray 73)).cell? ⟨w2.heap.size, 12, none⟩ = some (.int .i64 x.n) := by rw [BN.cell]; rfl
          have l12 := BN.lt
          have olK : ol.length ≤ K := by
            have h1 := congrArg List.length HF2.out.eq
            rw [List.length_append] at h1; omega
          have ssK : ss.length ≤ K := by
            have h1 := HF2.out.small; have h2 := szs_len (ss ++ [some t])
            rw [List.length_append] at h2; omega
          clear hT2
          cases t with
          | leaf i =>
            have hki : i = k := hk
            subst hki
            have hn1 : (x.n == 0) = false := by have : 1 ≤ (T.m k).n := hrep.2; rw [hx] at this; simp only [beq_eq_false_iff_ne, ne_eq]; omega
            have hb6 : At' (w2.alloc (.cells (ndv x).toArray 73)) w2.heap.size 6 [.int .i64 x.b.lo.x, .int .i64 x.b.lo.y, .int .i64 x.b.lo.z, .int .i64 x.b.hi.x, .int .i64 x.b.hi.y, .int .i64 x.b.hi.z] := fun j v hv => by
              rw [BN.cell]
              have hj : j < 6 := by
                rcases Nat.lt_or_ge j 6 with h | h
                · exact h
                · rw [List.getElem?_eq_none (by exact h)] at hv; cases hv
              show (bdv x.fat ++ bdv x.b ++ _)[6 + j]? = _
              rw [List.append_assoc, List.getElem?_append_right (by show 6 ≤ 6 + j; omega)]
              rw [show 6 + j - (bdv x.fat).length = j by show 6 + j - 6 = j; omega, List.getElem?_append_left (by exact hj)]
              exact hv
            clear hrep hfit hrng htr BN
            go_wp2_with (first | (refine wpL_at (l := ndv x) (by rfl) (by rfl) hat Tryz.underlying73 (by rfl) (szN _) (by kernel_rfl) ?_; (conv => arg 5; simp only [Act.put, List.setIfInBounds_toArray, List.set_cons_zero, List.set_cons_succ]); refine wpL_go (v := .pointer (some ⟨w2.heap.size, 0, none⟩)) (w' := w2.alloc (.cells [.int .i64 0, .int .i64 0, .int .i64 0, .int .i64 0, .int .i64 0, .int .i64 0, .int .i64 0, .int .i64 0, .int .i64 0, .int .i64 0, .int .i64 0, .int .i64 0, .int .i64 0, .int .i64 0, .int .i64 0, .int .i64 0, .int .i64 0].toArray 73)) (by kernel_rfl) (by go_simp) ?_; (conv => arg 5; simp only [Act.put, List.setIfInBounds_toArray, List.set_cons_zero, List.set_cons_succ]); refine wpL_store (cs := ndv x) (by rfl) (by rfl) (by rfl) (Box.new rfl) (szN _) (by rfl) (nd_one _) (by kernel_rfl) ?_; (conv => arg 5; simp only [Act.put, List.setIfInBounds_toArray, List.set_cons_zero, List.set_cons_succ]); rw [alloc_setRow]; refine wpList_nil ?_) | (refine wpL_at (l := [.int .i64 x.b.lo.x, .int .i64 x.b.lo.y, .int .i64 x.b.lo.z, .int .i64 x.b.hi.x, .int .i64 x.b.hi.y, .int .i64 x.b.hi.z]) (by rfl) (by rfl) hb6 Tryz.underlying38 (by rfl) (by kernel_rfl) (by kernel_rfl) ?_; (conv => arg 5; simp only [Act.put, List.setIfInBounds_toArray, List.set_cons_zero, List.set_cons_succ])))
            have hW3 := HW2.out.trans (hS3.mono HW2.out.size)
            refine (HQ.out x.b _ hW3).mono ?_
            rintro e w4 ⟨rfl, hS4⟩
            have HF4 := Lib.hid ((HF2.out.step hS3).step hS4)
            have HP4 := Lib.hid ((HP2.out.step hS3).step hS4)
            have HW4 := Lib.hid (hW3.trans (hS4.mono hW3.size))
            have c12' : w4.cell? ⟨w2.heap.size, 12, none⟩ = some (.int .i64 x.n) := by rw [(bcell hS4).1 _ _ l12]; exact c12
            clear hb6 c12 l12 c2 lp lg hat HF2 HP2 HW2 hS4 hS3 hW3
            have hqf' : q (T.m k).fat = true := by rw [hf]; exact hqf
            cases hqb : q x.b with
            | false =>
              go_wp2_with fail
              exact FIN.out _ _ _ _ _ (FS.drop HF4.out HP4.out (out_nay hqf' (by rw [hx]; exact hqb))) HW4.out
            | true =>
              have hS5 : Below w4.heap.size w4 (w4.alloc (.cells [.int .i64 x.n].toArray 3)) := (Below.refl _ _).alloc (Nat.le_refl _) _
              have hO5 := HF4.out.ou.step hS5
              have hP5 := HP4.out.step hS5
              have hc5 : (w4.alloc (.cells [.int .i64 x.n].toArray 3)).cell? ⟨w4.heap.size, 0, none⟩ = some (.int .i64 x.n) := by rw [(Box.new rfl : Box _ w4.heap.size [.int .i64 x.n] 3).cell]; rfl
              have hlen : (iv ol).length ≤ 1000000 := by rw [iv_len]; omega
              have hb5 : B ≤ (w4.alloc (.cells [.int .i64 x.n].toArray 3)).heap.size := by have := hS5.size; have := HW4.out.size; omega
              have HP5 := Lib.hid hP5
              have hW5 := HW4.out.trans (hS5.mono HW4.out.size)
              have HW5 := Lib.hid hW5
              clear hP5 hW5
              go_wp2_with (at_builtin; refine wpV_app Tryz.underlying50 infoI (by rfl) (by decide) (by rfl) (.tmp 64) (.tmp 67) (by rfl) (by rfl) hO5 (by rfl) hc5 (by rfl) hlen hb5 ?_; intro v6 w6 hO6 hG6 hL6 hB6)
              have hne : u5.ownBlock ≠ some gs := HF4.out.ne gs rfl
              have hgl := (HP5.out.lt gs rfl).2
              refine FIN.out _ _ _ _ _ (FS.found (y := x.n) HF4.out (HP5.out.block fun g hg hlt => hG6.block g hlt fun e => hne (e.symm.trans hg.symm)) (by rw [iv_snoc]; exact hO6) (fun e => ?_) (by
                show outT T.m q (.leaf k) = _
                rw [out_yes hqf' (by rw [hx]; exact hqb), hx])) ?_
              · rcases hL6 with h | h
                · exact hne (by rw [← h]; exact e)
                · rw [h] at e; injection e with e; omega
              · have := hB6 w (by rw [← hB]; exact HW5.out)
                rw [← hB] at this; exact this
          | node i l r =>
            have hki : i = k := hk
            subst hki
            have hn1 : (x.n == 0) = true := by have : (T.m k).n = 0 := hrep.2.1; rw [hx] at this; simp [this]
            have rl := hrng l.ix (List.mem_cons_of_mem _ (List.mem_append_left _ l.ix_all))
            have rr := hrng r.ix (List.mem_cons_of_mem _ (List.mem_append_right _ r.ix_all))
            have xl : x.l = l.ix := by rw [← hx]; exact hrep.2.2.1
            have xr : x.r = r.ix := by rw [← hx]; exact hrep.2.2.2.1
            have c14 : (w2.alloc (.cells (ndv x).toArray 73)).cell? ⟨w2.heap.size, 14, none⟩ = some (.int .i64 x.l) := by rw [BN.cell]; rfl
            have c15 : (w2.alloc (.cells (ndv x).toArray 73)).cell? ⟨w2.heap.size, 15, none⟩ = some (.int .i64 x.r) := by rw [BN.cell]; rfl
            have hW3 := HW2.out.trans (hS3.mono HW2.out.size)
            have HF3 := HF2.out.step hS3
            have HP3 := HP2.out.step hS3
            have hS5 : Below (w2.alloc (.cells (ndv x).toArray 73)).heap.size (w2.alloc (.cells (ndv x).toArray 73)) ((w2.alloc (.cells (ndv x).toArray 73)).alloc (.cells [.int .i64 x.l, .int .i64 x.r].toArray 3)) := (Below.refl _ _).alloc (Nat.le_refl _) _
            have hO5 := HP3.step hS5
            have hU5 := Lib.hid (HF3.step hS5)
            have bx5 : Box ((w2.alloc (.cells (ndv x).toArray 73)).alloc (.cells [.int .i64 x.l, .int .i64 x.r].toArray 3)) (w2.alloc (.cells (ndv x).toArray 73)).heap.size [.int .i64 x.l, .int .i64 x.r] 3 := Box.new rfl
            have hc5 : ((w2.alloc (.cells (ndv x).toArray 73)).alloc (.cells [.int .i64 x.l, .int .i64 x.r].toArray 3)).cell? ⟨(w2.alloc (.cells (ndv x).toArray 73)).heap.size, 0, none⟩ = some (.int .i64 x.l) := by rw [bx5.cell]; rfl
            have hc6 : ((w2.alloc (.cells (ndv x).toArray 73)).alloc (.cells [.int .i64 x.l, .int .i64 x.r].toArray 3)).cell? ⟨(w2.alloc (.cells (ndv x).toArray 73)).heap.size, 1, none⟩ = some (.int .i64 x.r) := by rw [bx5.cell]; rfl
            have hlen : (iv (ss.map ixo)).length ≤ 1000000 := by rw [iv_len, List.length_map]; omega
            have hb5 : B ≤ ((w2.alloc (.cells (ndv x).toArray 73)).alloc (.cells [.int .i64 x.l, .int .i64 x.r].toArray 3)).heap.size := by have := hS5.size; have := hW3.size; omega
            have HW5 := Lib.hid (hW3.trans (hS5.mono hW3.size))
            have hqf' : q (T.m k).fat = true := by rw [hf]; exact hqf
            have HREP := Lib.hid (show iv ((ss ++ [some l, some r]).map ixo) = iv (ss.map ixo) ++ [.int .i64 x.l, .int .i64 x.r] by rw [List.map_append, xl, xr, iv_append]; rfl)
            have es : (w2.alloc (.cells (ndv x).toArray 73)).heap.size = w2.heap.size + 1 := by simp
            rw [es] at hc5 hc6
            clear hrep hfit hrng htr BN hW3 HF3 HP3 hS3 hS5 bx5 rl rr HF2 HP2 HW2 xl xr
            go_wp2_with (first | (refine wpL_at (l := ndv x) (by rfl) (by rfl) hat Tryz.underlying73 (by rfl) (szN _) (by kernel_rfl) ?_; (conv => arg 5; simp only [Act.put, List.setIfInBounds_toArray, List.set_cons_zero, List.set_cons_succ]); refine wpL_go (v := .pointer (some ⟨w2.heap.size, 0, none⟩)) (w' := w2.alloc (.cells [.int .i64 0, .int .i64 0, .int .i64 0, .int .i64 0, .int .i64 0, .int .i64 0, .int .i64 0, .int .i64 0, .int .i64 0, .int .i64 0, .int .i64 0, .int .i64 0, .int .i64 0, .int .i64 0, .int .i64 0, .int .i64 0, .int .i64 0].toArray 73)) (by kernel_rfl) (by go_simp) ?_; (conv => arg 5; simp only [Act.put, List.setIfInBounds_toArray, List.set_cons_zero, List.set_cons_succ]); refine wpL_store (cs := ndv x) (by rfl) (by rfl) (by rfl) (Box.new rfl) (szN _) (by rfl) (nd_one _) (by kernel_rfl) ?_; (conv => arg 5; simp only [Act.put, List.setIfInBounds_toArray, List.set_cons_zero, List.set_cons_succ]); rw [alloc_setRow]; refine wpList_nil ?_) | (at_builtin; refine wpV_app2 Tryz.underlying50 infoI (by rfl) (by decide) (by rfl) (.tmp 53) (.tmp 58) (by rfl) (by rfl) hO5 (by rfl) hc5 hc6 (by rfl) (by rfl) hlen hb5 ?_; intro v6 w6 hO6 hG6 hL6 hB6))
            have hne : u5.ownBlock ≠ some gs := hU5.out.ne gs rfl
            refine FIN.out _ _ _ _ _ (FS.push hU5.out (by rw [HREP.out]; exact hO6) (hU5.out.ou.block fun g hg hlt => hG6.block g hlt fun e => hne (hg.trans e)) (fun j hj e => ?_) hqf') ?_
            · rcases hL6 with h | h
              · rw [h] at hj
                have : gs = j := by simpa [Value.ownBlock] using hj
                rw [← this] at e; exact hne e
              · rw [h] at hj
                injection hj with hj
                have := (hU5.out.ou.lt j e).2
                omega
            · have := hB6 w (by rw [← hB]; exact HW5.out)
              rw [← hB] at this; exact this
end TFd
end Go.Proofs.YtbcjnckejkjfeaaGreat
namespace Go.Proofs
open Go.Shelf
def Tryz.lays189_ren : Go.Shelf.Ren := ⟨fun | 189 => 63 | 125 => 51 | 257 => 83 | 128 => 79 | 129 => 80 | 294 => 95 | 295 => 96 | 296 => 97 | 297 => 98 | 298 => 99 | 299 => 100 | 216 => 101 | 300 => 102 | 301 => 103 | 328 => 115 | 329 => 91 | 330 => 92 | 331 => 116 | 332 => 117 | 215 => 118 | 343 => 126 | n => n, fun | 28 => 50 | 3 => 3 | 46 => 92 | 0 => 0 | 51 => 119 | 53 => 121 | 4 => 4 | 183 => 113 | 182 => 112 | 131 => 80 | 5 => 5 | 9 => 9 | 218 => 133 | 222 => 137 | 228 => 158 | 229 => 159 | n => n, fun | n => n⟩
theorem Tryz.lays189 : Go.Proofs.Lays.n189 Tryz.prog Tryz.lays189_ren := {
  mixed := by kernel_rfl
  f125 := Tryz.func51.trans (congrArg some (by kernel_rfl))
  f128 := Tryz.func79.trans (congrArg some (by kernel_rfl))
  f129 := Tryz.func80.trans (congrArg some (by kernel_rfl))
  f189 := Tryz.func63.trans (congrArg some (by kernel_rfl))
  f215 := Tryz.func118.trans (congrArg some (by kernel_rfl))
  f216 := Tryz.func101.trans (congrArg some (by kernel_rfl))
  f257 := Tryz.func83.trans (congrArg some (by kernel_rfl))
  f294 := Tryz.func95.trans (congrArg some (by kernel_rfl))
  f295 := Tryz.func96.trans (congrArg some (by kernel_rfl))
  f296 := Tryz.func97.trans (congrArg some (by kernel_rfl))
  f297 := Tryz.func98.trans (congrArg some (by kernel_rfl))
  f298 := Tryz.func99.trans (congrArg some (by kernel_rfl))
  f299 := Tryz.func100.trans (congrArg some (by kernel_rfl))
  f300 := Tryz.func102.trans (congrArg some (by kernel_rfl))
  f301 := Tryz.func103.trans (congrArg some (by kernel_rfl))
  f328 := Tryz.func115.trans (congrArg some (by kernel_rfl))
  f329 := Tryz.func91.trans (congrArg some (by kernel_rfl))
  f330 := Tryz.func92.trans (congrArg some (by kernel_rfl))
  f331 := Tryz.func116.trans (congrArg some (by kernel_rfl))
  f332 := Tryz.func117.trans (congrArg some (by kernel_rfl))
  f343 := Tryz.func126.trans (congrArg some (by kernel_rfl))
  t0 := Tryz.underlying0
  a0 := Tryz.isAgg0
  z0 := Tryz.sizeOf0
  v0 := Tryz.zeroValue0
  t3 := Tryz.underlying3
  a3 := Tryz.isAgg3
  z3 := Tryz.sizeOf3
  v3 := Tryz.zeroValue3
  t4 := Tryz.underlying4
  a4 := Tryz.isAgg4
  z4 := Tryz.sizeOf4
  v4 := Tryz.zeroValue4
  t5 := Tryz.underlying5
  a5 := Tryz.isAgg5
  z5 := Tryz.sizeOf5
  v5 := Tryz.zeroValue5
  t9 := Tryz.underlying9
  a9 := Tryz.isAgg9
  z9 := Tryz.sizeOf9
  v9 := Tryz.zeroValue9
  t28 := Tryz.underlying50
  a28 := Tryz.isAgg50
  z28 := Tryz.sizeOf50
  v28 := Tryz.zeroValue50
  t46 := Tryz.underlying92
  a46 := Tryz.isAgg92
  z46 := Tryz.sizeOf92
  v46 := Tryz.zeroValue92
  t51 := Tryz.underlying119
  a51 := Tryz.isAgg119
  z51 := Tryz.sizeOf119
  v51 := Tryz.zeroValue119
  t53 := Tryz.underlying121
  a53 := Tryz.isAgg121
  z53 := Tryz.sizeOf121
  v53 := Tryz.zeroValue121
  t131 := Tryz.underlying80
  a131 := Tryz.isAgg80
  z131 := Tryz.sizeOf80
  v131 := Tryz.zeroValue80
  t182 := Tryz.underlying112
  a182 := Tryz.isAgg112
  z182 := Tryz.sizeOf112
  v182 := Tryz.zeroValue112
  t183 := Tryz.underlying113
  a183 := Tryz.isAgg113
  z183 := Tryz.sizeOf113
  v183 := Tryz.zeroValue113
  t218 := Tryz.underlying133
  a218 := Tryz.isAgg133
  z218 := Tryz.sizeOf133
  v218 := Tryz.zeroValue133
  t222 := Tryz.underlying137
  a222 := Tryz.isAgg137
  z222 := Tryz.sizeOf137
  v222 := Tryz.zeroValue137
  t228 := Tryz.underlying158
  a228 := Tryz.isAgg158
  z228 := Tryz.sizeOf158
  v228 := Tryz.zeroValue158
  t229 := Tryz.underlying159
  a229 := Tryz.isAgg159
  z229 := Tryz.sizeOf159
  v229 := Tryz.zeroValue159 }
open Go.Sort Go.RowKit in
theorem Tryz.slices_Sort_int (blk off cap : Nat) (zs : List Int) (w : World) (hH : Holds (Value.int .i64) w blk off zs.toArray) (hblk : blk < w.heap.size) (hsz : zs.length < 4611686018427387904) :
    Calls Tryz.prog 63 #[.slice (some ⟨blk, off, none⟩) zs.length cap] w fun e w' =>
      e = .returned (.tuple #[]) ∧ ∃ n os, w' = grow (putRow (Value.int .i64) (Sort.ahead w n) blk off (zs.mergeSort fun x y => decide (x ≤ y)).toArray) os := Any.slices_Sort_int Tryz.lays189 blk off cap zs w hH hblk hsz
open Go.RowKit Go.Sort in
theorem Tryz.slices_Sort_int_none (p : Option Addr) (cap : Nat) (w : World) :
    Calls Tryz.prog 63 #[.slice p 0 cap] w fun e w' => e = .returned (.tuple #[]) ∧ w' = w := Any.slices_Sort_int_none Tryz.lays189 p cap w
def Tryz.sortPa_ren : Go.Shelf.Ren := ⟨fun | 6 => 30 | 15 => 51 | 14 => 50 | 28 => 79 | 29 => 80 | 20 => 71 | 21 => 72 | 22 => 73 | 23 => 74 | 24 => 75 | 25 => 76 | 26 => 77 | 27 => 78 | 46 => 90 | 47 => 91 | 48 => 92 | 49 => 93 | 50 => 94 | 57 => 114 | n => n, fun | 22 => 44 | 24 => 56 | 25 => 75 | 3 => 3 | 39 => 92 | 0 => 0 | 53 => 119 | 55 => 121 | 4 => 4 | 46 => 113 | 45 => 112 | 50 => 80 | 5 => 5 | 9 => 9 | 66 => 133 | 70 => 137 | 76 => 158 | 77 => 159 | n => n, fun | n => n⟩
theorem Tryz.sortPa : Go.Proofs.SlLaysF0.n6 Tryz.prog Tryz.sortPa_ren := {
  mixed := by kernel_rfl
  f6 := ⟨Tryz.f30.name, by decide, Tryz.func30.trans (congrArg some (by kernel_rfl))⟩
  f14 := ⟨Tryz.f50.name, by decide, Tryz.func50.trans (congrArg some (by kernel_rfl))⟩
  f15 := Tryz.func51.trans (congrArg some (by kernel_rfl))
  f20 := ⟨Tryz.f71.name, by decide, Tryz.func71.trans (congrArg some (by kernel_rfl))⟩
  f21 := ⟨Tryz.f72.name, by decide, Tryz.func72.trans (congrArg some (by kernel_rfl))⟩
  f22 := ⟨Tryz.f73.name, by decide, Tryz.func73.trans (congrArg some (by kernel_rfl))⟩
  f23 := ⟨Tryz.f74.name, by decide, Tryz.func74.trans (congrArg some (by kernel_rfl))⟩
  f24 := ⟨Tryz.f75.name, by decide, Tryz.func75.trans (congrArg some (by kernel_rfl))⟩
  f25 := ⟨Tryz.f76.name, by decide, Tryz.func76.trans (congrArg some (by kernel_rfl))⟩
  f26 := ⟨Tryz.f77.name, by decide, Tryz.func77.trans (congrArg some (by kernel_rfl))⟩
  f27 := ⟨Tryz.f78.name, by decide, Tryz.func78.trans (congrArg some (by kernel_rfl))⟩
  f28 := Tryz.func79.trans (congrArg some (by kernel_rfl))
  f29 := Tryz.func80.trans (congrArg some (by kernel_rfl))
  f46 := ⟨Tryz.f90.name, by decide, Tryz.func90.trans (congrArg some (by kernel_rfl))⟩
  f47 := Tryz.func91.trans (congrArg some (by kernel_rfl))
  f48 := Tryz.func92.trans (congrArg some (by kernel_rfl))
  f49 := ⟨Tryz.f93.name, by decide, Tryz.func93.trans (congrArg some (by kernel_rfl))⟩
  f50 := ⟨Tryz.f94.name, by decide, Tryz.func94.trans (congrArg some (by kernel_rfl))⟩
  f57 := ⟨Tryz.f114.name, by decide, Tryz.func114.trans (congrArg some (by kernel_rfl))⟩
  t0 := Tryz.underlying0
  a0 := Tryz.isAgg0
  z0 := Tryz.sizeOf0
  v0 := Tryz.zeroValue0
  t3 := Tryz.underlying3
  a3 := Tryz.isAgg3
  z3 := Tryz.sizeOf3
  v3 := Tryz.zeroValue3
  t4 := Tryz.underlying4
  a4 := Tryz.isAgg4
  z4 := Tryz.sizeOf4
  v4 := Tryz.zeroValue4
  t5 := Tryz.underlying5
  a5 := Tryz.isAgg5
  z5 := Tryz.sizeOf5
  v5 := Tryz.zeroValue5
  t9 := Tryz.underlying9
  a9 := Tryz.isAgg9
  z9 := Tryz.sizeOf9
  v9 := Tryz.zeroValue9
  t22 := Tryz.underlying44
  a22 := Tryz.isAgg44
  z22 := Tryz.sizeOf44
  v22 := Tryz.zeroValue44
  t25 := Tryz.underlying75
  a25 := Tryz.isAgg75
  z25 := Tryz.sizeOf75
  v25 := Tryz.zeroValue75
  t39 := Tryz.underlying92
  a39 := Tryz.isAgg92
  z39 := Tryz.sizeOf92
  v39 := Tryz.zeroValue92
  t45 := Tryz.underlying112
  a45 := Tryz.isAgg112
  z45 := Tryz.sizeOf112
  v45 := Tryz.zeroValue112
  t46 := Tryz.underlying113
  a46 := Tryz.isAgg113
  z46 := Tryz.sizeOf113
  v46 := Tryz.zeroValue113
  t50 := Tryz.underlying80
  a50 := Tryz.isAgg80
  z50 := Tryz.sizeOf80
  v50 := Tryz.zeroValue80
  t53 := Tryz.underlying119
  a53 := Tryz.isAgg119
  z53 := Tryz.sizeOf119
  v53 := Tryz.zeroValue119
  t55 := Tryz.underlying121
  a55 := Tryz.isAgg121
  z55 := Tryz.sizeOf121
  v55 := Tryz.zeroValue121
  t66 := Tryz.underlying133
  a66 := Tryz.isAgg133
  z66 := Tryz.sizeOf133
  v66 := Tryz.zeroValue133
  t70 := Tryz.underlying137
  a70 := Tryz.isAgg137
  z70 := Tryz.sizeOf137
  v70 := Tryz.zeroValue137
  t76 := Tryz.underlying158
  a76 := Tryz.isAgg158
  z76 := Tryz.sizeOf158
  v76 := Tryz.zeroValue158
  t77 := Tryz.underlying159
  a77 := Tryz.isAgg159
  z77 := Tryz.sizeOf159
  v77 := Tryz.zeroValue159 }
end Go.Proofs
namespace Go.Proofs.YtbcjnckejkjfeaaGreat
set_option linter.unusedVariables false
set_option linter.unusedSimpArgs false
open Go.RowKit Go.NP Go.Sort
namespace TSr
open TrX QVl TFd
theorem put_take {cur : Array Value} {d : List Int} (h : d.length ≤ cur.size) : (putCells (Value.int .i64) 0 d.toArray cur).toList.take d.length = iv d := by
  apply List.ext_getElem?
  intro j
  by_cases hj : j < d.length
  · rw [List.getElem?_take_of_lt hj]
    have hc : j < cur.size := by omega
    simp only [putCells, Array.getElem?_toList, Array.getElem?_mapIdx]
    rw [Array.getElem?_eq_getElem hc]
    simp [iv, hj]
  · rw [List.getElem?_eq_none (by rw [List.length_take]; omega), List.getElem?_eq_none (by rw [iv_len]; omega)]
theorem sortOK : SortOK := by
  intro base v l w h hn
  rcases h.2 with ⟨rfl, h0⟩ | ⟨g, cap, cur, rfl, hb, hg, hc, hm, hsz, hx⟩
  · have e : l = [] := List.eq_nil_of_length_eq_zero (by simpa [iv] using h0)
    subst e
    refine (Tryz.slices_Sort_int_none none 0 w).mono ?_
    rintro e w' ⟨rfl, rfl⟩
    exact ⟨rfl, ⟨[], List.Perm.refl _, List.Pairwise.nil, h⟩, fun w0 hB => hB⟩
  · have hl : (iv l).length = l.length := iv_len l
    simp only [hl] at hc hsz hx ⊢
    have hlt : g < w.heap.size := (Array.getElem?_eq_some_iff.1 hg).1
    have hB : Box w g cur.toList 3 := hg
    have hcs : l.length ≤ cur.size := by omega
    have hH : Holds (Value.int .i64) w g 0 l.toArray := fun j hj => by
      have hj' : j < l.length := by simpa using hj
      rw [Nat.zero_add]
      refine ⟨?_, hB.free j⟩
      rw [hB.cell]
      have : (iv l)[j]? = some (.int .i64 l[j]) := by simp [iv, hj']
      rw [← hx, List.getElem?_take_of_lt (by omega)] at this
      rw [this]
      congr 1
      simp [hj']
    refine (Tryz.slices_Sort_int g 0 cap l w hH hlt (by omega)).mono ?_
    rintro e w' ⟨rfl, n, os, rfl⟩
    have hr : (l.mergeSort fun x y => decide (x ≤ y)).length = l.length := List.length_mergeSort _
    have hpw : (l.mergeSort fun x y => decide (x ≤ y)).Pairwise (· ≤ ·) := by
      refine (List.pairwise_mergeSort (fun a b c h1 h2 => ?_) (fun a b => ?_) l).imp fun {a b} h => by simpa using h
      · simp at *; omega
      · simp; omega
    have hp := List.mergeSort_perm l fun x y => decide (x ≤ y)
    generalize (l.mergeSort fun x y => decide (x ≤ y)) = r at *
    refine ⟨rfl, ⟨r, hp, hpw, ?_⟩, ?_⟩
    · unfold OwnV
      rw [iv_len, hr]
      refine ⟨by rw [iv_len, hr, Nat.mul_one], .inr ⟨g, cap, putCells (Value.int .i64) 0 r.toArray cur, rfl, hb, ?_, by omega, hm, ?_, ?_⟩⟩
      · rw [heap_grow_old _ _ (by simpa [putRow, mapBlock, Sort.ahead] using hlt)]
        show (w.heap.modify g (onCells (putCells (Value.int .i64) 0 r.toArray)))[g]? = _
        rw [Array.getElem?_modify, if_pos rfl, hg]
        rfl
      · rw [← hsz]; simp [putCells]
      · have := put_take (cur := cur) (d := r) (by omega)
        rw [hr] at this
        rw [Nat.mul_one]; exact this
    · intro w0 hB0
      refine hB0.trans ⟨rfl, rfl, rfl, by simp [Sort.grow, putRow, mapBlock, Sort.ahead], fun k hk => ?_⟩
      have hk' : k < w.heap.size := by have := hB0.size; omega
      rw [heap_grow_old _ _ (by simpa [putRow, mapBlock, Sort.ahead] using hk')]
      show (w.heap.modify g (onCells _))[k]? = _
      rw [Array.getElem?_modify, if_neg (by omega)]
end TSr
end Go.Proofs.YtbcjnckejkjfeaaGreat
namespace Go.Proofs.YtbcjnckejkjfeaaGreat
set_option linter.unusedVariables false
set_option linter.unusedSimpArgs false
open Go.RowKit Go.NP
namespace TMe
open TrP TrW TrC TrA TrF TrG TrX TrY TrK THg TCt QVl TrE TrI TAs TFp TFd TSr
theorem cf37 (args : Array Value) (w1 : World) : (callFunc 37 args).run Tryz.prog w1 = .ok (.enter 37 args) w1 := enters Tryz.func37 (by kernel_rfl) (by kernel_rfl) args w1
theorem cf38 (args : Array Value) (w1 : World) : (callFunc 38 args).run Tryz.prog w1 = .ok (.enter 38 args) w1 := enters Tryz.func38 (by kernel_rfl) (by kernel_rfl) args w1
theorem tell_rise {q : Bd → Bool} {L : List En} (h : Rise L) : (tell q L).Pairwise (· < ·) := List.pairwise_map.2 (List.Pairwise.sublist List.filter_sublist h)
theorem tell_eq {q : Bd → Bool} {L : List En} {r : List Int} (h : Rise L) (hp : r.Perm (tell q L)) (hs : r.Pairwise (· ≤ ·)) : r = tell q L :=
  List.Perm.eq_of_pairwise (le := fun a b : Int => a ≤ b) (fun a b _ _ h1 h2 => by omega) hs ((tell_rise h).imp fun h => by omega) hp
theorem out_tell {w : World} {p K : Nat} {mg : Int} {L : List En} {T : Tn} {F al lv : List Int} {b c : Nat} {pl : Int → Option Int} {q : Bd → Bool} {s : Tr} (h : TI0 w p mg L K T F al lv b c pl) (hq : ∀ F b, holds F b = true → q b = true → q F = true) (hf : Fit T.m s) (hl : s.lv.Perm lv) : (outT T.m q s).Perm (tell q L) := by
  refine (out_perm hq hf).trans ?_
  have e : ((s.lv.filter fun i => q (T.m i).b).map fun i => (T.m i).n) = tell q (s.lv.map (ent T.m)) := by
    unfold tell
    rw [List.filter_map, List.map_map]
    rfl
  rw [e]
  exact (((hl.map (ent T.m)).trans h.perm).filter _).map _
/-- What is found, whatever is asked. -/
theorem findTI {fid : Nat} {ca : Array Value} {q : Bd → Bool} {p K : Nat} {mg : Int} {L : List En} {S : Nat → Prop} (w : World) (h : TI w p mg L S K) (hK : K < 80000) (hmono : ∀ F b, holds F b = true → q b = true → q F = true)
    (cff : ∀ args w1, (callFunc fid args).run Tryz.prog w1 = .ok (.enter fid args) w1) (hq : ∀ (b : Bd) (u : World), Below w.heap.size w u → RetB Tryz.prog fid (#[.agg #[.int .i64 b.lo.x, .int .i64 b.lo.y, .int .i64 b.lo.z, .int .i64 b.hi.x, .int .i64 b.hi.y, .int .i64 b.hi.z]] ++ ca) u (.bool (q b))) :
    Calls Tryz.prog 36 #[.pointer (some ⟨p, 0, none⟩), .func (.func fid) #[] ca] w fun e w' => (∃ v, e = .returned v ∧ OwnV w' w.heap.size 3 v (iv (tell q L))) ∧ Below w.heap.size w w' := by
  obtain ⟨T, F, al, lv, b, c, pl, h, rfl⟩ := h
  obtain rfl := h.p_
  have c4 := TO.topc h.ts.tx.to
  have hT : 0 < T.N → TN w T := fun hN => by
    rcases h.ts.tx.to with ⟨q, _⟩ | q
    · omega
    · exact q
  rcases h.ts.sh with ⟨h1, h2, h3⟩ | ⟨s, h1, h2, h3, h4, h5, h6⟩
  · have hL : L = [] := by have := h.perm; rw [h3] at this; exact this.nil_eq.symm
    refine (findC sortOK (K := K + 1) (x0 := none) w (by rw [c4, h1]; rfl) h.lt hT trivial (by show 1 ≤ K + 1; omega) (by omega) cff hq).mono ?_
    rintro e w' ⟨⟨v, rfl, r, hr1, hr2, hr3⟩, hb⟩
    have hr0 : r = [] := List.perm_nil.1 hr1
    subst hr0
    exact ⟨⟨v, rfl, by rw [hL]; exact hr3⟩, hb⟩
  · have hi : ItOK T.m T.N (some s) := ⟨⟨_, h1⟩, h2, fun i hi => h.ts.rng i (List.mem_append_left _ (h5.mem_iff.1 hi))⟩
    refine (findC sortOK (K := K + 1) (x0 := some s) w (by rw [c4, h4]; rfl) h.lt hT hi (by show s.all.length ≤ K + 1; rw [h5.length_eq]; have := h.ts.n3; omega) (by omega) cff hq).mono ?_
    rintro e w' ⟨⟨v, rfl, r, hr1, hr2, hr3⟩, hb⟩
    have := tell_eq h.rise (hr1.trans (out_tell h hmono h2 h6)) hr2
    rw [this] at hr3
    exact ⟨⟨v, rfl, hr3⟩, hb⟩
set_option maxRecDepth 100000 in
set_option maxHeartbeats 2000000 in
theorem m1C {gx : Nat} {x : Bd} (b : Bd) (u : World) (h : Box u gx [.int .i64 x.lo.x, .int .i64 x.lo.y, .int .i64 x.lo.z, .int .i64 x.hi.x, .int .i64 x.hi.y, .int .i64 x.hi.z] 38) : RetB Tryz.prog 37 #[.agg #[.int .i64 b.lo.x, .int .i64 b.lo.y, .int .i64 b.lo.z, .int .i64 b.hi.x, .int .i64 b.hi.y, .int .i64 b.hi.z], .pointer (some ⟨gx, 0, none⟩)] u (.bool (meet b x)) := by
  have hb : Below u.heap.size u (u.alloc (.cells #[.int .i64 b.lo.x, .int .i64 b.lo.y, .int .i64 b.lo.z, .int .i64 b.hi.x, .int .i64 b.hi.y, .int .i64 b.hi.z] 38)) := (Below.refl _ _).alloc (Nat.le_refl _) _
  have h1 := h.step hb
  have h2 : Box (u.alloc (.cells #[.int .i64 b.lo.x, .int .i64 b.lo.y, .int .i64 b.lo.z, .int .i64 b.hi.x, .int .i64 b.hi.y, .int .i64 b.hi.z] 38)) u.heap.size [.int .i64 b.lo.x, .int .i64 b.lo.y, .int .i64 b.lo.z, .int .i64 b.hi.x, .int .i64 b.hi.y, .int .i64 b.hi.z] 38 := Box.new rfl
  have H1 := Lib.hid h1; have H2 := Lib.hid h2
  clear h h1 h2
  unfold RetB
  go_enter Tryz.func37, Tryz.ntmps37
  go_wp2_with (first | (refine wpL_load (l := [.int .i64 b.lo.x, .int .i64 b.lo.y, .int .i64 b.lo.z, .int .i64 b.hi.x, .int .i64 b.hi.y, .int .i64 b.hi.z]) (by rfl) (by rfl) H2.out Tryz.underlying38 (by rfl) (by kernel_rfl) (by kernel_rfl) ?_; (conv => arg 5; simp only [Act.put, List.setIfInBounds_toArray, List.set_cons_zero, List.set_cons_succ])) | (refine wpL_load (l := [.int .i64 x.lo.x, .int .i64 x.lo.y, .int .i64 x.lo.z, .int .i64 x.hi.x, .int .i64 x.hi.y, .int .i64 x.hi.z]) (by rfl) (by rfl) H1.out Tryz.underlying38 (by rfl) (by kernel_rfl) (by kernel_rfl) ?_; (conv => arg 5; simp only [Act.put, List.setIfInBounds_toArray, List.set_cons_zero, List.set_cons_succ])))
  refine (meetC b x _).mono ?_
  rintro e w1 ⟨rfl, hS⟩
  go_wp2_with fail
  exact bodyPost_ret (v := .bool (meet b x)) (by simp [results, Tryz.results37, go_sem, *]) rfl ⟨rfl, hb.trans (hS.mono hb.size)⟩
theorem meet_mono {x : Bd} : ∀ F b, holds F b = true → meet b x = true → meet F x = true := fun F b h1 h2 => by
  obtain ⟨hF, hb, h3, h4⟩ := holds_iff.1 h1
  have h2' : b.ok ∧ x.ok ∧ (pmax b.lo x.lo).le (pmin b.hi x.hi) := by simpa [meet] using h2
  obtain ⟨_, hx, h5, h6, h7⟩ := h2'
  have : F.ok ∧ x.ok ∧ (pmax F.lo x.lo).le (pmin F.hi x.hi) := by
    refine ⟨hF, hx, ?_, ?_, ?_⟩
    · have a := h3.1; have c := h4.1; simp only [pmax, pmin] at *; omega
    · have a := h3.2.1; have c := h4.2.1; simp only [pmax, pmin] at *; omega
    · have a := h3.2.2; have c := h4.2.2; simp only [pmax, pmin] at *; omega
  simpa [meet] using this
/-- The numbers whose bounds meet one. -/
def meetL (L : List En) (x : Bd) : List Int := tell (fun b => meet b x) L
theorem meetL_no {L : List En} {x : Bd} (h : ¬ x.ok) : meetL L x = [] := by
  unfold meetL tell
  rw [List.filter_eq_nil_iff.2]; · rfl
  intro e _ hm
  have h2 : e.b.ok ∧ x.ok ∧ (pmax e.b.lo x.lo).le (pmin e.b.hi x.hi) := by simpa [meet] using hm
  exact h h2.2.1
set_option maxRecDepth 100000 in
set_option maxHeartbeats 4000000 in
theorem tmeetC {p K : Nat} {mg : Int} {x : Bd} {L : List En} {S : Nat → Prop} (w : World) (h : TI w p mg L S K) (hK : K < 80000) :
    Calls Tryz.prog 16 #[.pointer (some ⟨p, 0, none⟩), .agg #[.int .i64 x.lo.x, .int .i64 x.lo.y, .int .i64 x.lo.z, .int .i64 x.hi.x, .int .i64 x.hi.y, .int .i64 x.hi.z]] w fun e w' => (∃ v, e = .returned (.tuple #[v, .int .i64 (errIf x.ok)]) ∧ OwnV w' w.heap.size 3 v (iv (meetL L x))) ∧ Below w.heap.size w w' := by
  have hm : w.cell? ⟨p, 0, none⟩ = some (.bool true) ∧ p < w.heap.size := by
    obtain ⟨T, F, al, lv, b, c, pl, h, rfl⟩ := h
    have := TO.madec h.ts.tx.to; rw [h.p_] at this; exact ⟨this, h.lt⟩
  have hb : Below w.heap.size w (w.alloc (.cells #[.int .i64 x.lo.x, .int .i64 x.lo.y, .int .i64 x.lo.z, .int .i64 x.hi.x, .int .i64 x.hi.y, .int .i64 x.hi.z] 38)) := (Below.refl _ _).alloc (Nat.le_refl _) _
  have hm2 : (w.alloc (.cells #[.int .i64 x.lo.x, .int .i64 x.lo.y, .int .i64 x.lo.z, .int .i64 x.hi.x, .int .i64 x.hi.y, .int .i64 x.hi.z] 38)).cell? ⟨p, 0, none⟩ = some (.bool true) := by rw [(bcell hb).1 p 0 hm.2]; exact hm.1
  have hp2 : p < (w.alloc (.cells #[.int .i64 x.lo.x, .int .i64 x.lo.y, .int .i64 x.lo.z, .int .i64 x.hi.x, .int .i64 x.hi.y, .int .i64 x.hi.z] 38)).heap.size := by have := hb.size; omega
  have AS := Lib.hid (askedC (n := 1) (x := x) _ hm2 hp2)
  have e1 : askS 1 x = errIf x.ok := by unfold askS; rw [if_pos (by omega)]
  rw [e1] at AS
  have hbx : Box (w.alloc (.cells #[.int .i64 x.lo.x, .int .i64 x.lo.y, .int .i64 x.lo.z, .int .i64 x.hi.x, .int .i64 x.hi.y, .int .i64 x.hi.z] 38)) w.heap.size [.int .i64 x.lo.x, .int .i64 x.lo.y, .int .i64 x.lo.z, .int .i64 x.hi.x, .int .i64 x.hi.y, .int .i64 x.hi.z] 38 := Box.new rfl
  have HB := Lib.hid hbx; have HTI := Lib.hid (h.step hb); have HBE := Lib.hid hb
  clear h hm hm2 hp2 hb hbx
  by_cases hx : x.ok
  · rw [errIf_pos hx] at AS ⊢
    go_enter Tryz.func16, Tryz.ntmps16
    go_wp2_with (refine wpL_load (l := [.int .i64 x.lo.x, .int .i64 x.lo.y, .int .i64 x.lo.z, .int .i64 x.hi.x, .int .i64 x.hi.y, .int .i64 x.hi.z]) (by rfl) (by rfl) HB.out Tryz.underlying38 (by rfl) (by kernel_rfl) (by kernel_rfl) ?_; (conv => arg 5; simp only [Act.put, List.setIfInBounds_toArray, List.set_cons_zero, List.set_cons_succ]))
    refine AS.out.mono ?_
    rintro e w1 ⟨rfl, hS⟩
    have h2 := HTI.out.step hS
    have hB2 := HB.out.step hS
    have HW := Lib.hid (HBE.out.trans (hS.mono HBE.out.size))
    clear HTI HB HBE hS AS
    go_wp2_with fail
    refine (findTI (q := fun b => meet b x) (fid := 37) (ca := #[.pointer (some ⟨w.heap.size, 0, none⟩)]) w1 h2 hK meet_mono cf37 (fun b u hu => m1C b u (hB2.step hu))).mono ?_
    rintro e w2 ⟨⟨v, rfl, hv⟩, hS2⟩
    have FIN := Lib.hid (show (∃ v_1, Ending.returned (.tuple #[v, .int .i64 0]) = .returned (.tuple #[v_1, .int .i64 0]) ∧ OwnV w2 w.heap.size 3 v_1 (iv (meetL L x))) ∧ Below w.heap.size w w2 from ⟨⟨v, rfl, hv.mono HW.out.size⟩, HW.out.trans (hS2.mono HW.out.size)⟩)
    clear hv hS2 HW h2 hB2
    go_wp2_with fail
    exact bodyPost_ret (v := .tuple #[v, .int .i64 0]) (by simp [results, Tryz.results16, go_sem]) rfl FIN.out
  · rw [errIf_neg hx] at AS ⊢
    rw [meetL_no hx]
    go_enter Tryz.func16, Tryz.ntmps16
    go_wp2_with (refine wpL_load (l := [.int .i64 x.lo.x, .int .i64 x.lo.y, .int .i64 x.lo.z, .int .i64 x.hi.x, .int .i64 x.hi.y, .int .i64 x.hi.z]) (by rfl) (by rfl) HB.out Tryz.underlying38 (by rfl) (by kernel_rfl) (by kernel_rfl) ?_; (conv => arg 5; simp only [Act.put, List.setIfInBounds_toArray, List.set_cons_zero, List.set_cons_succ]))
    refine AS.out.mono ?_
    rintro e w1 ⟨rfl, hS⟩
    go_wp2_with fail
    exact bodyPost_ret (v := .tuple #[.slice none 0 0, .int .i64 7]) (by simp [results, Tryz.results16, go_sem]) rfl ⟨⟨.slice none 0 0, rfl, OwnV.nil _ _ _⟩, HBE.out.trans (hS.mono HBE.out.size)⟩
end TMe
end Go.Proofs.YtbcjnckejkjfeaaGreat
