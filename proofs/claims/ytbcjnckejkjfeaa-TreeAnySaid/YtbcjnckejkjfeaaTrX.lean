/- A tree with its nodes, its free places and its map, as it lies in memory. No condition. -/
import Derived.Test.YtbcjnckejkjfeaaTrG
import Derived.Test.YtbcjnckejkjfeaaTVl
import Derived.Test.YtbcjnckejkjfeaaQVm
namespace Go.Proofs.Ytbcjnckejkjfeaa
set_option linter.unusedVariables false
set_option linter.unusedSimpArgs false
open Go.RowKit Go.NP
namespace TrX
open TrP TrW TrC TrA QVl QVm
def im (f : Int → Option Int) : Int → Option Value := fun n => (f n).map (.int .i64)
def iv (l : List Int) : List Value := l.map (.int .i64)
theorem iv_len (l : List Int) : (iv l).length = l.length := List.length_map ..
/-- A tree that never had a node. -/
def tv0 (T : Tn) : List Value := [.bool true, .int .i64 T.mg, .slice none 0 0, T.fr, .int .i64 T.top, T.mp]
def TO (w : World) (T : Tn) : Prop := (T.N = 0 ∧ T.cap = 0 ∧ T.g = T.p ∧ Box w T.p (tv0 T) 58) ∨ TN w T
/-- The blocks of a tree. -/
def own (T : Tn) (b : Nat) (k : Nat) : Prop := k = T.p ∨ k = T.g ∨ T.fr.ownBlock = some k ∨ k = b
structure TX (w : World) (T : Tn) (F : List Int) (b c : Nat) (pl : Int → Option Int) : Prop where
  to : TO w T
  fr : OwnV w 0 3 T.fr (iv F)
  mp : T.mp = .map (some b)
  vm : VM w b (im pl) c
  bp : b ≠ T.p
  bg : b ≠ T.g
  fp : ∀ k, T.fr.ownBlock = some k → k ≠ T.p ∧ k ≠ T.g ∧ k ≠ b
  cl : T.cap ≤ maxLen
/-- All but some blocks is as it was. -/
structure Fr (w w' : World) (S : Nat → Prop) : Prop where
  os : w'.os = w.os
  tape : w'.tape = w.tape
  output : w'.output = w.output
  size : w.heap.size ≤ w'.heap.size
  block : ∀ k, k < w.heap.size → ¬ S k → w'.heap[k]? = w.heap[k]?
theorem Fr.refl (w : World) (S : Nat → Prop) : Fr w w S := ⟨rfl, rfl, rfl, Nat.le_refl _, fun _ _ _ => rfl⟩
/-- Two in a row: what the second one turns is what the first one may, or new. -/
theorem Fr.trans {w1 w2 w3 : World} {S S' : Nat → Prop} (h : Fr w1 w2 S) (k : Fr w2 w3 S') (hS : ∀ j, S' j → S j ∨ w1.heap.size ≤ j) : Fr w1 w3 S :=
  ⟨k.os.trans h.os, k.tape.trans h.tape, k.output.trans h.output, Nat.le_trans h.size k.size, fun i hi hn => (k.block i (Nat.lt_of_lt_of_le hi h.size) (fun hs => (hS i hs).elim hn (fun h => by omega))).trans (h.block i hi hn)⟩
theorem Fr.mono {w1 w2 : World} {S S' : Nat → Prop} (h : Fr w1 w2 S) (hS : ∀ j, S j → S' j) : Fr w1 w2 S' := ⟨h.os, h.tape, h.output, h.size, fun k hk hn => h.block k hk fun hs => hn (hS k hs)⟩
theorem Fr.of_below {w1 w2 : World} {S : Nat → Prop} (h : Below w1.heap.size w1 w2) : Fr w1 w2 S := ⟨h.os, h.tape, h.output, h.size, fun k hk _ => h.block k hk⟩
theorem Fr.of_mod {w1 w2 : World} {p g : Nat} {S : Nat → Prop} (h : Mod w1 w2 p g) (hp : S p) (hg : S g) : Fr w1 w2 S := ⟨h.os, h.tape, h.output, h.size, fun k hk hn => h.block k hk (fun e => hn (e ▸ hp)) (fun e => hn (e ▸ hg))⟩
theorem Fr.below {w1 w2 : World} {S : Nat → Prop} {B : Nat} {w0 : World} (h : Fr w1 w2 S) (hB : ∀ k, S k → B ≤ k) (h0 : Below B w0 w1) (hb : B ≤ w1.heap.size) : Below B w0 w2 :=
  h0.trans ⟨h.os, h.tape, h.output, h.size, fun k hk => h.block k (by omega) fun hs => by have := hB k hs; omega⟩
theorem TX.pLt {w : World} {T : Tn} {F : List Int} {b c : Nat} {pl : Int → Option Int} (h : TX w T F b c pl) : T.p < w.heap.size := by
  rcases h.to with ⟨_, _, _, hb⟩ | hn
  · exact hb.lt
  · exact (TN.lt hn).1
theorem TX.lt {w : World} {T : Tn} {F : List Int} {b c : Nat} {pl : Int → Option Int} (h : TX w T F b c pl) : ∀ k, own T b k → k < w.heap.size := by
  intro k hk
  rcases hk with rfl | rfl | hk | rfl
  · exact h.pLt
  · rcases h.to with ⟨_, _, e, hb⟩ | hn
    · rw [e]; exact hb.lt
    · exact (TN.lt hn).2
  · exact (h.fr.lt k hk).2
  · exact h.vm.lt
theorem Box.block {w w' : World} {b : Nat} {l : List Value} {Ty : TypeId} (h : Box w b l Ty) (hb : w'.heap[b]? = w.heap[b]?) : Box w' b l Ty := hb.trans h
theorem TO.frame {w w' : World} {T : Tn} (h : TO w T) (hp : w'.heap[T.p]? = w.heap[T.p]?) (hg : w'.heap[T.g]? = w.heap[T.g]?) : TO w' T := by
  rcases h with ⟨h1, h2, h3, hb⟩ | hn
  · exact .inl ⟨h1, h2, h3, Box.block hb hp⟩
  · obtain ⟨L, hb, hl, hc⟩ := hn.row
    exact .inr ⟨Box.block hn.box hp, ⟨L, Box.block hb hg, hl, hc⟩, hn.cap, hn.ne, hn.small⟩
theorem TX.frame {w w' : World} {T : Tn} {F : List Int} {b c : Nat} {pl : Int → Option Int} (h : TX w T F b c pl) (hf : ∀ k, own T b k → w'.heap[k]? = w.heap[k]?) : TX w' T F b c pl :=
  ⟨h.to.frame (hf _ (.inl rfl)) (hf _ (.inr (.inl rfl))), h.fr.block fun g hg _ => hf g (.inr (.inr (.inl hg))), h.mp, h.vm.block (hf _ (.inr (.inr (.inr rfl)))), h.bp, h.bg, h.fp, h.cl⟩
theorem TX.step {w w' : World} {T : Tn} {F : List Int} {b c : Nat} {pl : Int → Option Int} (h : TX w T F b c pl) (hS : Below w.heap.size w w') : TX w' T F b c pl := h.frame fun k hk => hS.block k (h.lt k hk)
theorem TX.over {w w' : World} {T : Tn} {F : List Int} {b c : Nat} {pl : Int → Option Int} {S : Nat → Prop} (h : TX w T F b c pl) (hS : Fr w w' S) (hd : ∀ k, own T b k → ¬ S k) : TX w' T F b c pl := h.frame fun k hk => hS.block k (h.lt k hk) (hd k hk)
/-- What turns the nodes and the top alone. -/
theorem TX.moved {w w' : World} {T : Tn} {F : List Int} {b c : Nat} {pl : Int → Option Int} {m : M} {t : Int} (h : TX w T F b c pl) (hT : TN w' { T with m := m, top := t }) (hM : Mod w w' T.p T.g) : TX w' { T with m := m, top := t } F b c pl :=
  ⟨.inr hT, h.fr.block fun g hg hl => hM.block g hl (h.fp g hg).1 (h.fp g hg).2.1, h.mp, h.vm.block (hM.block b h.vm.lt h.bp h.bg), h.bp, h.bg, h.fp, h.cl⟩
/-- All nodes, one behind the other. -/
def rows (m : M) : Nat → List Value
  | 0 => []
  | n + 1 => rows m n ++ ndv (m n)
theorem rows_len (m : M) : ∀ n, (rows m n).length = n * 17
  | 0 => rfl
  | n + 1 => by show (rows m n ++ ndv (m n)).length = _; rw [List.length_append, rows_len m n, ndv_len]; omega
theorem rows_at (m : M) : ∀ (n i j : Nat), i < n → j < 17 → (rows m n)[i * 17 + j]? = (ndv (m i))[j]?
  | 0, i, j, hi, _ => by omega
  | n + 1, i, j, hi, hj => by
    show (rows m n ++ ndv (m n))[i * 17 + j]? = _
    by_cases e : i < n
    · rw [List.getElem?_append_left (by rw [rows_len]; omega)]; exact rows_at m n i j e hj
    · obtain rfl : i = n := by omega
      rw [List.getElem?_append_right (by rw [rows_len]; omega), rows_len]
      congr 1; omega
theorem rows_one (m : M) : ∀ (n : Nat), ∀ v ∈ rows m n, v.oneCell' = true
  | 0, v, h => by cases h
  | n + 1, v, h => by
    rcases List.mem_append.1 h with h | h
    · exact rows_one m n v h
    · exact (Array.all_eq_true_iff_forall_mem.1 (nd_one (m n))) v (by simpa using h)
theorem TN.ownR {w : World} {T : Tn} (h : TN w T) (hc : T.cap ≤ maxLen) : w.ownsRow 0 71 17 (.slice (some ⟨T.g, 0, none⟩) T.N T.cap) T.N (rows T.m T.N) := by
  obtain ⟨L, hb, hl, hcl⟩ := h.row
  refine ⟨rows_len _ _, .inr ⟨T.g, T.cap, L.toArray, rfl, Nat.zero_le _, hb, h.cap, hc, by simpa using hl, ?_⟩⟩
  apply List.ext_getElem?
  intro t
  have hcap := h.cap
  by_cases ht : t < T.N * 17
  · rw [List.getElem?_take_of_lt ht]
    have e : t = t / 17 * 17 + t % 17 := by omega
    have hj : t % 17 < 17 := by omega
    obtain ⟨v, hv⟩ : ∃ v, (ndv (T.m (t / 17 : Nat)))[t % 17]? = some v := ⟨_, List.getElem?_eq_getElem (by rw [ndv_len]; exact hj)⟩
    have h1 := hcl (t / 17) (by omega) (t % 17) v hv
    rw [e, rows_at _ _ _ _ (by omega) hj, hv]
    simpa using h1
  · rw [List.getElem?_eq_none (by simp; omega), List.getElem?_eq_none (by rw [rows_len]; omega)]
theorem CellsN.of_take {L : List Value} {m : M} {N : Nat} (h : L.take (N * 17) = rows m N) : CellsN L m N := fun i hi j v hv => by
  have hj : j < 17 := by
    rcases Nat.lt_or_ge j 17 with h | h
    · exact h
    · rw [List.getElem?_eq_none (by rw [ndv_len]; exact h)] at hv; cases hv
  rw [← rows_at m N i j hi hj, ← h, List.getElem?_take_of_lt (by omega)] at hv
  exact hv
theorem rows_ext {m m' : M} : ∀ {n : Nat}, (∀ i : Nat, i < n → m i = m' i) → rows m n = rows m' n
  | 0, _ => rfl
  | n + 1, h => by show rows m n ++ ndv (m n) = rows m' n ++ ndv (m' n); rw [rows_ext fun i hi => h i (by omega), h n (by omega)]
/-- The nodes as a value. -/
theorem TO.nv {w : World} {T : Tn} (h : TO w T) (hc : T.cap ≤ maxLen) : ∃ nv, w.cell? ⟨T.p, 2, none⟩ = some nv ∧ w.ownsRow 0 71 17 nv T.N (rows T.m T.N) ∧ (∀ k, nv.ownBlock = some k → k = T.g ∧ T.g ≠ T.p) ∧ (∃ A, nv = .slice A T.N T.cap) ∧
    ∃ L, Box w T.p L 58 ∧ L[2]? = some nv ∧ ∀ (v : Value) (g cap N : Nat), v = .slice (some ⟨g, 0, none⟩) N cap → L.set 2 v = tv { T with g := g, N := N, cap := cap } := by
  rcases h with ⟨h1, h2, h3, hb⟩ | hn
  · refine ⟨.slice none 0 0, by rw [hb.cell]; rfl, ⟨by rw [h1]; rfl, .inl ⟨rfl, h1⟩⟩, fun k hk => (by cases hk), ⟨none, (by rw [h1, h2])⟩, _, hb, rfl, fun v g cap N hv => by subst hv; rfl⟩
  · exact ⟨_, hn.nodes, TN.ownR hn hc, fun k hk => ⟨by simpa [Value.ownBlock] using hk.symm, hn.ne.symm⟩, ⟨_, rfl⟩, _, hn.box, rfl, fun v g cap N hv => by subst hv; rfl⟩
theorem TO.fr {w : World} {T : Tn} (h : TO w T) : w.cell? ⟨T.p, 3, none⟩ = some T.fr := by
  rcases h with ⟨_, _, _, hb⟩ | hn
  · rw [hb.cell]; rfl
  · rw [hn.box.cell]; rfl
theorem TO.topc {w : World} {T : Tn} (h : TO w T) : w.cell? ⟨T.p, 4, none⟩ = some (.int .i64 T.top) := by
  rcases h with ⟨_, _, _, hb⟩ | hn
  · rw [hb.cell]; rfl
  · rw [hn.box.cell]; rfl
theorem TO.mpc {w : World} {T : Tn} (h : TO w T) : w.cell? ⟨T.p, 5, none⟩ = some T.mp := by
  rcases h with ⟨_, _, _, hb⟩ | hn
  · rw [hb.cell]; rfl
  · rw [hn.box.cell]; rfl
theorem TO.mgc {w : World} {T : Tn} (h : TO w T) : w.cell? ⟨T.p, 1, none⟩ = some (.int .i64 T.mg) := by
  rcases h with ⟨_, _, _, hb⟩ | hn
  · rw [hb.cell]; rfl
  · rw [hn.box.cell]; rfl
theorem TO.madec {w : World} {T : Tn} (h : TO w T) : w.cell? ⟨T.p, 0, none⟩ = some (.bool true) := by
  rcases h with ⟨_, _, _, hb⟩ | hn
  · rw [hb.cell]; rfl
  · rw [hn.box.cell]; rfl
theorem infoNd : (Try.prog.info? 71).map (fun i => (i.zero, i.size, i.bytes)) = some (some (.agg #[.int .i64 0, .int .i64 0, .int .i64 0, .int .i64 0, .int .i64 0, .int .i64 0, .int .i64 0, .int .i64 0, .int .i64 0, .int .i64 0, .int .i64 0, .int .i64 0, .int .i64 0, .int .i64 0, .int .i64 0, .int .i64 0, .int .i64 0]), 17, 136) := by kernel_rfl
section
variable {ops : Array Oper} {r : List Oper} {o : Oper} {a : Act} {Q : Exit → Act → World → Prop} {w : World}
/-- A node appended to the nodes. -/
theorem wpL_appN {T : Tn} {nv : Value} {gx : Nat} {z : Nd} (hgd : o.guard = none) (s x : Operand)
    (ho : o.op = .call { callee := .builtin .append, args := #[s, x], argTypes := #[55, 55] }) (hs : a.eval s = nv) (hown : w.ownsRow 0 71 17 nv T.N (rows T.m T.N)) (hx : a.eval x = .slice (some ⟨gx, 0, none⟩) 1 1) (hat : At' w gx 0 (ndv z)) (hl : T.N ≤ 100000)
    (h : ∀ w' g' cap' L, w.grownBy w' nv.ownBlock → (nv.ownBlock = some g' ∨ g' = w.heap.size) → Box w' g' L 71 → L.length = cap' * 17 → CellsN L (st T.m T.N z) (T.N + 1) → T.N + 1 ≤ cap' → cap' ≤ maxLen → wpList Try.prog ops Q r (a.put o.dst (.slice (some ⟨g', 0, none⟩) (T.N + 1 : Nat) cap')) w') : wpList Try.prog ops Q (o :: r) a w := by
  obtain ⟨i0, hi0, hz0, hz1, hz2⟩ := info_parts infoNd
  refine wpList_append_own_at _ hgd s x 55 ho 0 71 i0 _ 17 136 Try.underlying55 hi0 hz0 hz1 hz2 rfl (by decide) nv T.N (rows T.m T.N) hs hown ⟨gx, 0, none⟩ 1 1 (ndv z) hx rfl (fun j u hj => ?_) (fun u hu => (Array.all_eq_true_iff_forall_mem.1 (nd_one z)) u (by simpa using hu)) (by unfold maxLen; omega) (by omega) (Nat.zero_le _) ?_
  · have := hat j u hj
    have hadd : (⟨gx, 0, none⟩ : Addr).add j = ⟨gx, 0 + j, none⟩ := by unfold Addr.add; split <;> simp_all
    rw [hadd]; exact this
  · intro v' w' h1 h2 h3 h4
    rcases h1.2 with ⟨_, h0⟩ | ⟨g', cap', cur, rfl, _, hg, hc, hm, hsz, ht⟩
    · omega
    · refine h w' g' cap' cur.toList h2 ?_ hg (by simpa using hsz) (CellsN.of_take ?_) hc hm
      · rcases h4 with h4 | h4
        · exact .inl (h4 ▸ rfl)
        · exact .inr (by simpa [Value.ownBlock] using h4)
      · rw [ht]
        show _ = rows _ T.N ++ ndv _
        rw [st_at, rows_ext (m := T.m) (m' := st T.m T.N z) fun i hi => (st_ne (by omega)).symm]
end
theorem TN.setFr {w : World} {T : Tn} (h : TN w T) (v : Value) : TN (w.setCell ⟨T.p, 3, none⟩ v) { T with fr := v } := by
  obtain ⟨L, hb, hl, hc⟩ := h.row
  exact ⟨(h.box.set 3 v).cast rfl, ⟨L, hb.other h.ne _, hl, hc⟩, h.cap, h.ne, h.small⟩
def sets (L : List Value) : Nat → List Value → List Value
  | _, [] => L
  | o, v :: r => sets (L.set o v) (o + 1) r
theorem box_sets {b : Nat} {Ty : TypeId} : ∀ (vs : List Value) (L : List Value) (o : Nat) (w : World), Box w b L Ty → Box (w.setCells b o vs) b (sets L o vs) Ty
  | [], _, _, _, h => h
  | v :: r, L, o, w, h => box_sets r (L.set o v) (o + 1) _ (h.set o v)
theorem sets_len : ∀ (vs : List Value) (L : List Value) (o : Nat), (sets L o vs).length = L.length
  | [], _, _ => rfl
  | v :: r, L, o => by show (sets (L.set o v) (o + 1) r).length = _; rw [sets_len r, List.length_set]
theorem sets_out : ∀ (vs : List Value) (L : List Value) (o t : Nat), t < o ∨ o + vs.length ≤ t → (sets L o vs)[t]? = L[t]?
  | [], _, _, _, _ => rfl
  | v :: r, L, o, t, h => by
    simp only [List.length_cons] at h
    show (sets (L.set o v) (o + 1) r)[t]? = _
    rw [sets_out r _ _ _ (by omega), List.getElem?_set_ne (by omega)]
theorem sets_in : ∀ (vs : List Value) (L : List Value) (o j : Nat), j < vs.length → o + vs.length ≤ L.length → (sets L o vs)[o + j]? = vs[j]?
  | [], _, _, _, h, _ => by cases h
  | v :: r, L, o, j, h, hL => by
    simp only [List.length_cons] at h hL
    show (sets (L.set o v) (o + 1) r)[o + j]? = _
    cases j with
    | zero => rw [sets_out r _ _ _ (by omega), Nat.add_zero, List.getElem?_set_self (by omega)]; rfl
    | succ j =>
      rw [show o + (j + 1) = o + 1 + j by omega, sets_in r _ _ _ (by omega) (by rw [List.length_set]; omega)]
      simp
/-- A node is written whole. -/
theorem TN.putAll {w : World} {T : Tn} (h : TN w T) {k : Nat} (hk : k < T.N) (x : Nd) : TN (w.setCells T.g (k * 17) (ndv x)) { T with m := st T.m k x } := by
  obtain ⟨L, hb, hl, hc⟩ := h.row
  have hcap := h.cap
  have hkL : k * 17 + 17 ≤ L.length := by omega
  refine ⟨box_cells h.ne.symm _ _ _ h.box, ⟨_, box_sets _ _ _ _ hb, by rw [sets_len]; exact hl, fun i hi j v hv => ?_⟩, h.cap, h.ne, h.small⟩
  have hj : j < 17 := by
    rcases Nat.lt_or_ge j 17 with h | h
    · exact h
    · rw [List.getElem?_eq_none (by rw [ndv_len]; exact h)] at hv; cases hv
  by_cases e : i = k
  · subst e
    rw [sets_in _ _ _ _ (by rw [ndv_len]; exact hj) (by rw [ndv_len]; exact hkL)]
    simp only [st_at] at hv; exact hv
  · simp only [st_ne (show (i : Int) ≠ k by omega)] at hv
    rw [sets_out _ _ _ _ (by rw [ndv_len]; omega)]
    exact hc i hi j v hv
theorem TN.thereN {w : World} {T : Tn} (h : TN w T) {k : Nat} (hk : k < T.N) : w.there T.g (k * 17) 17 := fun j hj => by
  refine ⟨?_, h.free _⟩
  obtain ⟨v, hv⟩ : ∃ v, (ndv (T.m k))[j]? = some v := ⟨_, List.getElem?_eq_getElem (by rw [ndv_len]; omega)⟩
  rw [h.cell hk hv]; rfl
end TrX
end Go.Proofs.Ytbcjnckejkjfeaa
