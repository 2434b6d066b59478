/- A tree with its nodes, its free places and its map, as it lies in memory. No condition. The document's tree in memory. No condition. A fresh node: the walk. Condition: not too many nodes. How much more a node would hold: hang's closure, its walk. Condition: both nodes are there. -/
import Derived.Test.YtbcjnckejkjfeaaGreatQai
import Derived.Test.YtbcjnckejkjfeaaGreatQae
import Derived.Test.YtbcjnckejkjfeaaGreatQah
namespace Go.Proofs.YtbcjnckejkjfeaaGreat
set_option linter.unusedVariables false
set_option linter.unusedSimpArgs false
open Go.RowKit Go.NP
namespace TrX
open TrP TrW TrC TrA QVl QVm
def im (f : Int → Option Int) : Int → Option Value := fun n => (f n).map (.int .i64)
def iv (l : List Int) : List Value := l.map (.int .i64)
theorem iv_len (l : List Int) : (iv l).length = l.length := List.length_map ..
/-- A tree that never had a node. -/
def tv0 (T : Tn) : List Value := [.bool true, .int .i64 T.mg, .slice none 0 0, T.fr, .int .i64 T.top, T.mp]
def TO (w : World) (T : Tn) : Prop := (T.N = 0 ∧ T.cap = 0 ∧ T.g = T.p ∧ Box w T.p (tv0 T) 60) ∨ TN w T
/-- The blocks of a tree. -/
def own (T : Tn) (b : Nat) (k : Nat) : Prop := k = T.p ∨ k = T.g ∨ T.fr.ownBlock = some k ∨ k = b
structure TX (w : World) (T : Tn) (F : List Int) (b c : Nat) (pl : Int → Option Int) : Prop where
  to : TO w T
  fr : OwnV w 0 3 T.fr (iv F)
  mp : T.mp = .map (some b)
  vm : VM w b (im pl) c
  bp : b ≠ T.p
  bg : b ≠ T.g
  fp : ∀ k, T.fr.ownBlock = some k → k ≠ T.p ∧ k ≠ T.g ∧ k ≠ b
  cl : T.cap ≤ maxLen
/-- All but some blocks is as it was. -/
structure Fr (w w' : World) (S : Nat → Prop) : Prop where
  os : w'.os = w.os
  tape : w'.tape = w.tape
  output : w'.output = w.output
  size : w.heap.size ≤ w'.heap.size
  block : ∀ k, k < w.heap.size → ¬ S k → w'.heap[k]? = w.heap[k]?
theorem Fr.refl (w : World) (S : Nat → Prop) : Fr w w S := ⟨rfl, rfl, rfl, Nat.le_refl _, fun _ _ _ => rfl⟩
/-- Two in a row: what the second one turns is what the first one may, or new. -/
theorem Fr.trans {w1 w2 w3 : World} {S S' : Nat → Prop} (h : Fr w1 w2 S) (k : Fr w2 w3 S') (hS : ∀ j, S' j → S j ∨ w1.heap.size ≤ j) : Fr w1 w3 S :=
  ⟨k.os.trans h.os, k.tape.trans h.tape, k.output.trans h.output, Nat.le_trans h.size k.size, fun i hi hn => (k.block i (Nat.lt_of_lt_of_le hi h.size) (fun hs => (hS i hs).elim hn (fun h => by omega))).trans (h.block i hi hn)⟩
theorem Fr.mono {w1 w2 : World} {S S' : Nat → Prop} (h : Fr w1 w2 S) (hS : ∀ j, S j → S' j) : Fr w1 w2 S' := ⟨h.os, h.tape, h.output, h.size, fun k hk hn => h.block k hk fun hs => hn (hS k hs)⟩
theorem Fr.of_below {w1 w2 : World} {S : Nat → Prop} (h : Below w1.heap.size w1 w2) : Fr w1 w2 S := ⟨h.os, h.tape, h.output, h.size, fun k hk _ => h.block k hk⟩
theorem Fr.of_mod {w1 w2 : World} {p g : Nat} {S : Nat → Prop} (h : Mod w1 w2 p g) (hp : S p) (hg : S g) : Fr w1 w2 S := ⟨h.os, h.tape, h.output, h.size, fun k hk hn => h.block k hk (fun e => hn (e ▸ hp)) (fun e => hn (e ▸ hg))⟩
theorem Fr.below {w1 w2 : World} {S : Nat → Prop} {B : Nat} {w0 : World} (h : Fr w1 w2 S) (hB : ∀ k, S k → B ≤ k) (h0 : Below B w0 w1) (hb : B ≤ w1.heap.size) : Below B w0 w2 :=
  h0.trans ⟨h.os, h.tape, h.output, h.size, fun k hk => h.block k (by omega) fun hs => by have := hB k hs; omega⟩
theorem TX.pLt {w : World} {T : Tn} {F : List Int} {b c : Nat} {pl : Int → Option Int} (h : TX w T F b c pl) : T.p < w.heap.size := by
  rcases h.to with ⟨_, _, _, hb⟩ | hn
  · exact hb.lt
  · exact (TN.lt hn).1
theorem TX.lt {w : World} {T : Tn} {F : List Int} {b c : Nat} {pl : Int → Option Int} (h : TX w T F b c pl) : ∀ k, own T b k → k < w.heap.size := by
  intro k hk
  rcases hk with rfl | rfl | hk | rfl
  · exact h.pLt
  · rcases h.to with ⟨_, _, e, hb⟩ | hn
    · rw [e]; exact hb.lt
    · exact (TN.lt hn).2
  · exact (h.fr.lt k hk).2
  · exact h.vm.lt
theorem Box.block {w w' : World} {b : Nat} {l : List Value} {Ty : TypeId} (h : Box w b l Ty) (hb : w'.heap[b]? = w.heap[b]?) : Box w' b l Ty := hb.trans h
theorem TO.frame {w w' : World} {T : Tn} (h : TO w T) (hp : w'.heap[T.p]? = w.heap[T.p]?) (hg : w'.heap[T.g]? = w.heap[T.g]?) : TO w' T := by
  rcases h with ⟨h1, h2, h3, hb⟩ | hn
  · exact .inl ⟨h1, h2, h3, Box.block hb hp⟩
  · obtain ⟨L, hb, hl, hc⟩ := hn.row
    exact .inr ⟨Box.block hn.box hp, ⟨L, Box.block hb hg, hl, hc⟩, hn.cap, hn.ne, hn.small⟩
theorem TX.frame {w w' : World} {T : Tn} {F : List Int} {b c : Nat} {pl : Int → Option Int} (h : TX w T F b c pl) (hf : ∀ k, own T b k → w'.heap[k]? = w.heap[k]?) : TX w' T F b c pl :=
  ⟨h.to.frame (hf _ (.inl rfl)) (hf _ (.inr (.inl rfl))), h.fr.block fun g hg _ => hf g (.inr (.inr (.inl hg))), h.mp, h.vm.block (hf _ (.inr (.inr (.inr rfl)))), h.bp, h.bg, h.fp, h.cl⟩
theorem TX.step {w w' : World} {T : Tn} {F : List Int} {b c : Nat} {pl : Int → Option Int} (h : TX w T F b c pl) (hS : Below w.heap.size w w') : TX w' T F b c pl := h.frame fun k hk => hS.block k (h.lt k hk)
theorem TX.over {w w' : World} {T : Tn} {F : List Int} {b c : Nat} {pl : Int → Option Int} {S : Nat → Prop} (h : TX w T F b c pl) (hS : Fr w w' S) (hd : ∀ k, own T b k → ¬ S k) : TX w' T F b c pl := h.frame fun k hk => hS.block k (h.lt k hk) (hd k hk)
/-- What turns the nodes and the top alone. -/
theorem TX.moved {w w' : World} {T : Tn} {F : List Int} {b c : Nat} {pl : Int → Option Int} {m : M} {t : Int} (h : TX w T F b c pl) (hT : TN w' { T with m := m, top := t }) (hM : Mod w w' T.p T.g) : TX w' { T with m := m, top := t } F b c pl :=
  ⟨.inr hT, h.fr.block fun g hg hl => hM.block g hl (h.fp g hg).1 (h.fp g hg).2.1, h.mp, h.vm.block (hM.block b h.vm.lt h.bp h.bg), h.bp, h.bg, h.fp, h.cl⟩
/-- All nodes, one behind the other. -/
def rows (m : M) : Nat → List Value
  | 0 => []
  | n + 1 => rows m n ++ ndv (m n)
theorem rows_len (m : M) : ∀ n, (rows m n).length = n * 17
  | 0 => rfl
  | n + 1 => by show (rows m n ++ ndv (m n)).length = _; rw [List.length_append, rows_len m n, ndv_len]; omega
theorem rows_at (m : M) : ∀ (n i j : Nat), i < n → j < 17 → (rows m n)[i * 17 + j]? = (ndv (m i))[j]?
  | 0, i, j, hi, _ => by omega
  | n + 1, i, j, hi, hj => by
    show (rows m n ++ ndv (m n))[i * 17 + j]? = _
    by_cases e : i < n
    · rw [List.getElem?_append_left (by rw [rows_len]; omega)]; exact rows_at m n i j e hj
    · obtain rfl : i = n := by omega
      rw [List.getElem?_append_right (by rw [rows_len]; omega), rows_len]
      congr 1; omega
theorem rows_one (m : M) : ∀ (n : Nat), ∀ v ∈ rows m n, v.oneCell' = true
  | 0, v, h => by cases h
  | n + 1, v, h => by
    rcases List.mem_append.1 h with h | h
    · exact rows_one m n v h
    · exact (Array.all_eq_true_iff_forall_mem.1 (nd_one (m n))) v (by simpa using h)
theorem TN.ownR {w : World} {T : Tn} (h : TN w T) (hc : T.cap ≤ maxLen) : w.ownsRow 0 73 17 (.slice (some ⟨T.g, 0, none⟩) T.N T.cap) T.N (rows T.m T.N) := by
  obtain ⟨L, hb, hl, hcl⟩ := h.row
  refine ⟨rows_len _ _, .inr ⟨T.g, T.cap, L.toArray, rfl, Nat.zero_le _, hb, h.cap, hc, by simpa using hl, ?_⟩⟩
  apply List.ext_getElem?
  intro t
  have hcap := h.cap
  by_cases ht : t < T.N * 17
  · rw [List.getElem?_take_of_lt ht]
    have e : t = t / 17 * 17 + t % 17 := by omega
    have hj : t % 17 < 17 := by omega
    obtain ⟨v, hv⟩ : ∃ v, (ndv (T.m (t / 17 : Nat)))[t % 17]? = some v := ⟨_, List.getElem?_eq_getElem (by rw [ndv_len]; exact hj)⟩
    have h1 := hcl (t / 17) (by omega) (t % 17) v hv
    rw [e, rows_at _ _ _ _ (by omega) hj, hv]
    simpa using h1
  · rw [List.getElem?_eq_none (by simp; omega), List.getElem?_eq_none (by rw [rows_len]; omega)]
theorem CellsN.of_take {L : List Value} {m : M} {N : Nat} (h : L.take (N * 17) = rows m N) : CellsN L m N := fun i hi j v hv => by
  have hj : j < 17 := by
    rcases Nat.lt_or_ge j 17 with h | h
    · exact h
    · rw [List.getElem?_eq_none (by rw [ndv_len]; exact h)] at hv; cases hv
  rw [← rows_at m N i j hi hj, ← h, List.getElem?_take_of_lt (by omega)] at hv
  exact hv
theorem rows_ext {m m' : M} : ∀ {n : Nat}, (∀ i : Nat, i < n → m i = m' i) → rows m n = rows m' n
  | 0, _ => rfl
  | n + 1, h => by show rows m n ++ ndv (m n) = rows m' n ++ ndv (m' n); rw [rows_ext fun i hi => h i (by omega), h n (by omega)]
/-- The nodes as a value. -/
theorem TO.nv {w : World} {T : Tn} (h : TO w T) (hc : T.cap ≤ maxLen) : ∃ nv, w.cell? ⟨T.p, 2, none⟩ = some nv ∧ w.ownsRow 0 73 17 nv T.N (rows T.m T.N) ∧ (∀ k, nv.ownBlock = some k → k = T.g ∧ T.g ≠ T.p) ∧ (∃ A, nv = .slice A T.N T.cap) ∧
    ∃ L, Box w T.p L 60 ∧ L[2]? = some nv ∧ ∀ (v : Value) (g cap N : Nat), v = .slice (some ⟨g, 0, none⟩) N cap → L.set 2 v = tv { T with g := g, N := N, cap := cap } := by
  rcases h with ⟨h1, h2, h3, hb⟩ | hn
  · refine ⟨.slice none 0 0, by rw [hb.cell]; rfl, ⟨by rw [h1]; rfl, .inl ⟨rfl, h1⟩⟩, fun k hk => (by cases hk), ⟨none, (by rw [h1, h2])⟩, _, hb, rfl, fun v g cap N hv => by subst hv; rfl⟩
  · exact ⟨_, hn.nodes, TN.ownR hn hc, fun k hk => ⟨by simpa [Value.ownBlock] using hk.symm, hn.ne.symm⟩, ⟨_, rfl⟩, _, hn.box, rfl, fun v g cap N hv => by subst hv; rfl⟩
theorem TO.fr {w : World} {T : Tn} (h : TO w T) : w.cell? ⟨T.p, 3, none⟩ = some T.fr := by
  rcases h with ⟨_, _, _, hb⟩ | hn
  · rw [hb.cell]; rfl
  · rw [hn.box.cell]; rfl
theorem TO.topc {w : World} {T : Tn} (h : TO w T) : w.cell? ⟨T.p, 4, none⟩ = some (.int .i64 T.top) := by
  rcases h with ⟨_, _, _, hb⟩ | hn
  · rw [hb.cell]; rfl
  · rw [hn.box.cell]; rfl
theorem TO.mpc {w : World} {T : Tn} (h : TO w T) : w.cell? ⟨T.p, 5, none⟩ = some T.mp := by
  rcases h with ⟨_, _, _, hb⟩ | hn
  · rw [hb.cell]; rfl
  · rw [hn.box.cell]; rfl
theorem TO.mgc {w : World} {T : Tn} (h : TO w T) : w.cell? ⟨T.p, 1, none⟩ = some (.int .i64 T.mg) := by
  rcases h with ⟨_, _, _, hb⟩ | hn
  · rw [hb.cell]; rfl
  · rw [hn.box.cell]; rfl
theorem TO.madec {w : World} {T : Tn} (h : TO w T) : w.cell? ⟨T.p, 0, none⟩ = some (.bool true) := by
  rcases h with ⟨_, _, _, hb⟩ | hn
  · rw [hb.cell]; rfl
  · rw [hn.box.cell]; rfl
theorem infoNd : (Tryz.prog.info? 73).map (fun i => (i.zero, i.size, i.bytes)) = some (some (.agg #[.int .i64 0, .int .i64 0, .int .i64 0, .int .i64 0, .int .i64 0, .int .i64 0, .int .i64 0, .int .i64 0, .int .i64 0, .int .i64 0, .int .i64 0, .int .i64 0, .int .i64 0, .int .i64 0, .int .i64 0, .int .i64 0, .int .i64 0]), 17, 136) := by kernel_rfl
section
variable {ops : Array Oper} {r : List Oper} {o : Oper} {a : Act} {Q : Exit → Act → World → Prop} {w : World}
/-- A node appended to the nodes. -/
theorem wpL_appN {T : Tn} {nv : Value} {gx : Nat} {z : Nd} (hgd : o.guard = none) (s x : Operand)
    (ho : o.op = .call { callee := .builtin .append, args := #[s, x], argTypes := #[58, 58] }) (hs : a.eval s = nv) (hown : w.ownsRow 0 73 17 nv T.N (rows T.m T.N)) (hx : a.eval x = .slice (some ⟨gx, 0, none⟩) 1 1) (hat : At' w gx 0 (ndv z)) (hl : T.N ≤ 100000)
    (h : ∀ w' g' cap' L, w.grownBy w' nv.ownBlock → (nv.ownBlock = some g' ∨ g' = w.heap.size) → Box w' g' L 73 → L.length = cap' * 17 → CellsN L (st T.m T.N z) (T.N + 1) → T.N + 1 ≤ cap' → cap' ≤ maxLen → wpList Tryz.prog ops Q r (a.put o.dst (.slice (some ⟨g', 0, none⟩) (T.N + 1 : Nat) cap')) w') : wpList Tryz.prog ops Q (o :: r) a w := by
  obtain ⟨i0, hi0, hz0, hz1, hz2⟩ := info_parts infoNd
  refine wpList_append_own_at _ hgd s x 58 ho 0 73 i0 _ 17 136 Tryz.underlying58 hi0 hz0 hz1 hz2 rfl (by decide) nv T.N (rows T.m T.N) hs hown ⟨gx, 0, none⟩ 1 1 (ndv z) hx rfl (fun j u hj => ?_) (fun u hu => (Array.all_eq_true_iff_forall_mem.1 (nd_one z)) u (by simpa using hu)) (by unfold maxLen; omega) (by omega) (Nat.zero_le _) ?_
  · have := hat j u hj
    have hadd : (⟨gx, 0, none⟩ : Addr).add j = ⟨gx, 0 + j, none⟩ := by unfold Addr.add; split <;> simp_all
    rw [hadd]; exact this
  · intro v' w' h1 h2 h3 h4
    rcases h1.2 with ⟨_, h0⟩ | ⟨g', cap', cur, rfl, _, hg, hc, hm, hsz, ht⟩
    · omega
    · refine h w' g' cap' cur.toList h2 ?_ hg (by simpa using hsz) (CellsN.of_take ?_) hc hm
      · rcases h4 with h4 | h4
        · exact .inl (h4 ▸ rfl)
        · exact .inr (by simpa [Value.ownBlock] using h4)
      · rw [ht]
        show _ = rows _ T.N ++ ndv _
        rw [st_at, rows_ext (m := T.m) (m' := st T.m T.N z) fun i hi => (st_ne (by omega)).symm]
end
theorem TN.setFr {w : World} {T : Tn} (h : TN w T) (v : Value) : TN (w.setCell ⟨T.p, 3, none⟩ v) { T with fr := v } := by
  obtain ⟨L, hb, hl, hc⟩ := h.row
  exact ⟨(h.box.set 3 v).cast rfl, ⟨L, hb.other h.ne _, hl, hc⟩, h.cap, h.ne, h.small⟩
def sets (L : List Value) : Nat → List Value → List Value
  | _, [] => L
  | o, v :: r => sets (L.set o v) (o + 1) r
theorem box_sets {b : Nat} {Ty : TypeId} : ∀ (vs : List Value) (L : List Value) (o : Nat) (w : World), Box w b L Ty → Box (w.setCells b o vs) b (sets L o vs) Ty
  | [], _, _, _, h => h
  | v :: r, L, o, w, h => box_sets r (L.set o v) (o + 1) _ (h.set o v)
theorem sets_len : ∀ (vs : List Value) (L : List Value) (o : Nat), (sets L o vs).length = L.length
  | [], _, _ => rfl
  | v :: r, L, o => by show (sets (L.set o v) (o + 1) r).length = _; rw [sets_len r, List.length_set]
theorem sets_out : ∀ (vs : List Value) (L : List Value) (o t : Nat), t < o ∨ o + vs.length ≤ t → (sets L o vs)[t]? = L[t]?
  | [], _, _, _, _ => rfl
  | v :: r, L, o, t, h => by
    simp only [List.length_cons] at h
    show (sets (L.set o v) (o + 1) r)[t]? = _
    rw [sets_out r _ _ _ (by omega), List.getElem?_set_ne (by omega)]
theorem sets_in : ∀ (vs : List Value) (L : List Value) (o j : Nat), j < vs.length → o + vs.length ≤ L.length → (sets L o vs)[o + j]? = vs[j]?
  | [], _, _, _, h, _ => by cases h
  | v :: r, L, o, j, h, hL => by
    simp only [List.length_cons] at h hL
    show (sets (L.set o v) (o + 1) r)[o + j]? = _
    cases j with
    | zero => rw [sets_out r _ _ _ (by omega), Nat.add_zero, List.getElem?_set_self (by omega)]; rfl
    | succ j =>
      rw [show o + (j + 1) = o + 1 + j by omega, sets_in r _ _ _ (by omega) (by rw [List.length_set]; omega)]
      simp
/-- A node is written whole. -/
theorem TN.putAll {w : World} {T : Tn} (h : TN w T) {k : Nat} (hk : k < T.N) (x : Nd) : TN (w.setCells T.g (k * 17) (ndv x)) { T with m := st T.m k x } := by
  obtain ⟨L, hb, hl, hc⟩ := h.row
  have hcap := h.cap
  have hkL : k * 17 + 17 ≤ L.length := by omega
  refine ⟨box_cells h.ne.symm _ _ _ h.box, ⟨_, box_sets _ _ _ _ hb, by rw [sets_len]; exact hl, fun i hi j v hv => ?_⟩, h.cap, h.ne, h.small⟩
  have hj : j < 17 := by
    rcases Nat.lt_or_ge j 17 with h | h
    · exact h
    · rw [List.getElem?_eq_none (by rw [ndv_len]; exact h)] at hv; cases hv
  by_cases e : i = k
  · subst e
    rw [sets_in _ _ _ _ (by rw [ndv_len]; exact hj) (by rw [ndv_len]; exact hkL)]
    simp only [st_at] at hv; exact hv
  · simp only [st_ne (show (i : Int) ≠ k by omega)] at hv
    rw [sets_out _ _ _ _ (by rw [ndv_len]; omega)]
    exact hc i hi j v hv
theorem TN.thereN {w : World} {T : Tn} (h : TN w T) {k : Nat} (hk : k < T.N) : w.there T.g (k * 17) 17 := fun j hj => by
  refine ⟨?_, h.free _⟩
  obtain ⟨v, hv⟩ : ∃ v, (ndv (T.m k))[j]? = some v := ⟨_, List.getElem?_eq_getElem (by rw [ndv_len]; omega)⟩
  rw [h.cell hk hv]; rfl
end TrX
end Go.Proofs.YtbcjnckejkjfeaaGreat
namespace Go.Proofs.YtbcjnckejkjfeaaGreat
set_option linter.unusedVariables false
set_option linter.unusedSimpArgs false
open Go.RowKit Go.NP
namespace DTr
open TrW TrC TrA TrX TrE DSl DPl
/-- The document's tree: a margin, and a slice of entries. -/
structure DT0 (w : World) (t : Nat) (mg : Int) (L : List En) (A : Option Addr) (cap : Nat) : Prop where
  bx : Box w t [.int .i64 mg, .slice A L.length cap] 30
  sl : SlE w A L.length L
  nl : A = none → cap = 0
  lc : L.length ≤ cap
  ne : ∀ a, A = some a → a.block ≠ t ∧ a.block < w.heap.size
/-- The same; its entries lie in a block that is such. -/
def DT (w : World) (t : Nat) (mg : Int) (L : List En) (P : Nat → Prop) : Prop := ∃ A cap, DT0 w t mg L A cap ∧ ∀ a, A = some a → P a.block
theorem DT0.step {w w' : World} {t : Nat} {mg : Int} {L : List En} {A : Option Addr} {cap : Nat} (h : DT0 w t mg L A cap) (hS : Below w.heap.size w w') : DT0 w' t mg L A cap :=
  ⟨h.bx.step hS, h.sl.step hS, h.nl, h.lc, fun a ha => ⟨(h.ne a ha).1, by have := (h.ne a ha).2; have := hS.size; omega⟩⟩
theorem DT.step {w w' : World} {t : Nat} {mg : Int} {L : List En} {P : Nat → Prop} (h : DT w t mg L P) (hS : Below w.heap.size w w') : DT w' t mg L P := by
  obtain ⟨A, cap, h, hA⟩ := h; exact ⟨A, cap, h.step hS, hA⟩
theorem SlE.keep {w w' : World} {A : Option Addr} {n t : Nat} {l : List En} (h : SlE w A n l) (hF : Fr w w' fun k => k = t) (ha : ∀ a, A = some a → a.block ≠ t) : SlE w' A n l :=
  ⟨h.1, fun hn => by
    obtain ⟨b, off, h1, h2, h3⟩ := h.2 hn
    have hbl := hF.block b h2 (ha _ h1)
    exact ⟨b, off, h1, by have := hF.size; omega, fun k s hk j v hv => by have := h3 k s hk j v hv; simp only [World.cell?, hbl] at this ⊢; exact this⟩⟩
theorem DT0.over {w w' : World} {t : Nat} {mg : Int} {L : List En} {A : Option Addr} {cap : Nat} {S : Nat → Prop} (h : DT0 w t mg L A cap) (hF : Fr w w' S) (ht : ¬ S t) (ha : ∀ a, A = some a → ¬ S a.block) : DT0 w' t mg L A cap := by
  refine ⟨(hF.block t h.bx.lt ht).trans h.bx, ⟨h.sl.1, fun hn => ?_⟩, h.nl, h.lc, fun a e => ⟨(h.ne a e).1, by have := (h.ne a e).2; have := hF.size; omega⟩⟩
  obtain ⟨b, off, h1, h2, h3⟩ := h.sl.2 hn
  have hbl := hF.block b h2 (ha _ h1)
  exact ⟨b, off, h1, by have := hF.size; omega, fun k s hk j v hv => by have := h3 k s hk j v hv; simp only [World.cell?, hbl] at this ⊢; exact this⟩
theorem fr_cell (w : World) (t o : Nat) (v : Value) : Fr w (w.setCell ⟨t, o, none⟩ v) fun k => k = t :=
  Fr.of_mod ((Mod.of_below (p := t) (g := t) (Below.refl _ _)).cell (.inr rfl) v) rfl rfl
theorem SlE.take {w : World} {A : Option Addr} {n z : Nat} {l : List En} (h : SlE w A n l) (hz : z ≤ n) : SlE w A z (l.take z) :=
  ⟨by rw [List.length_take, h.1]; omega, fun h0 => by
    obtain ⟨b, off, h1, h2, h3⟩ := h.2 (by omega)
    exact ⟨b, off, h1, h2, fun k s hk => h3 k s (by
      rw [List.getElem?_take] at hk
      split at hk
      · exact hk
      · cases hk)⟩⟩
theorem SlE.drop {w : World} {b off n : Nat} (z : Nat) {l : List En} (h : SlE w (some ⟨b, off, none⟩) n l) (hb : b < w.heap.size) : SlE w (some ⟨b, off + z * 13, none⟩) (n - z) (l.drop z) :=
  ⟨by rw [List.length_drop, h.1], fun h0 => by
    obtain ⟨b', off', h1, h2, h3⟩ := h.2 (by omega)
    cases h1
    refine ⟨b, _, rfl, h2, fun k s hk => ?_⟩
    rw [List.getElem?_drop] at hk
    have := h3 (z + k) s hk
    rwa [show off + (z + k) * 13 = off + z * 13 + k * 13 by omega] at this⟩
/-- What one's own list becomes, stored into the tree. -/
theorem own_dt {w : World} {base t : Nat} {v : Value} {mg : Int} {L : List En} {x : Value} (ho : OwnE w base v L) (hb : Box w t [.int .i64 mg, x] 30) (ht : t < base) (hf : (w.frozen? ⟨t, 1, none⟩) = false) {P : Nat → Prop} (hP : ∀ k, base ≤ k → P k) :
    DT (w.setCell ⟨t, 1, none⟩ v) t mg L P := by
  have hF := fr_cell w t 1 v
  rcases ho.2 with ⟨rfl, h0⟩ | ⟨g, cap, cur, rfl, hbg, hg, hc, hm, hsz, hx⟩
  · have : L = [] := List.eq_nil_of_length_eq_zero h0
    subst this
    exact ⟨none, 0, ⟨hb.set 1 _, ⟨rfl, fun h => absurd h (by simp)⟩, fun _ => rfl, Nat.le_refl _, fun a e => by cases e⟩, fun a e => by cases e⟩
  · obtain ⟨A, cap', e, hs⟩ := ho.sl
    injection e with e1 e2 e3
    subst e1; subst e3
    have hgl := (Array.getElem?_eq_some_iff.1 hg).1
    have e := hb.set 1 (.slice (some ⟨g, 0, none⟩) L.length cap)
    exact ⟨some ⟨g, 0, none⟩, cap, ⟨e, SlE.keep hs hF (fun a h => by cases h; show g ≠ t; omega), (fun h => by cases h), hc, fun a h => by cases h; exact ⟨by show g ≠ t; omega, by have := hF.size; show g < _; omega⟩⟩, fun a h => by cases h; exact hP g hbg⟩
theorem lo_take (L : List En) (q : Int) : L.take (lo L q).length = lo L q := by
  conv => lhs; rw [← lo_hi L q]
  rw [lo_hi]
  have : (lo L q ++ hi L q).take (lo L q).length = lo L q := List.take_left
  rwa [lo_hi] at this
theorem hi_drop (L : List En) (q : Int) : L.drop (lo L q).length = hi L q := by
  have : (lo L q ++ hi L q).drop (lo L q).length = hi L q := List.drop_left
  rwa [lo_hi] at this
end DTr
end Go.Proofs.YtbcjnckejkjfeaaGreat
namespace Go.Proofs.YtbcjnckejkjfeaaGreat
set_option linter.unusedVariables false
set_option linter.unusedSimpArgs false
open Go.RowKit Go.NP
namespace TrY
open TrP TrW TrC TrA TrX QVl QVm
theorem szNs : (Tryz.prog.info? 58).map (·.size) = some 1 := by kernel_rfl
theorem szIs : (Tryz.prog.info? 50).map (·.size) = some 1 := by kernel_rfl
/-- What a fresh node leaves. -/
structure Fresh (w w' : World) (T : Tn) (F : List Int) (b c : Nat) (pl : Int → Option Int) (x : Nd) (at_ : Nat) (T' : Tn) (F' : List Int) : Prop where
  tx : TX w' T' F' b c pl
  p : T'.p = T.p
  top : T'.top = T.top
  mg : T'.mg = T.mg
  m : T'.m = st T.m at_ x
  lt : at_ < T'.N
  tn : TN w' T'
  how : F = F' ++ [(at_ : Int)] ∧ T'.N = T.N ∨ F = [] ∧ F' = [] ∧ at_ = T.N ∧ T'.N = T.N + 1
  fr : Fr w w' (own T b)
  ow : ∀ k, own T' b k → own T b k ∨ w.heap.size ≤ k
theorem heap_setCell (w : World) (a : Addr) (v : Value) (k : Nat) (h : k ≠ a.block) : (w.setCell a v).heap[k]? = w.heap[k]? := Below.heap_setCell _ _ _ _ h
theorem OwnV.cut {w : World} {base g n cap : Nat} {Ty : TypeId} {v : Value} {l : List Value} (h : OwnV w base Ty (.slice (some ⟨g, 0, none⟩) (n + 1) cap) (l ++ [v])) (hn : l.length = n) : OwnV w base Ty (.slice (some ⟨g, 0, none⟩) n cap) l := by
  unfold OwnV at *
  rw [hn]
  rw [List.length_append, hn] at h
  rcases h.2 with ⟨h1, _⟩ | ⟨g', cap', cur, h1, hb, hg, hc, hm, hsz, hx⟩
  · cases h1
  · cases h1
    refine ⟨by rw [hn]; omega, .inr ⟨g, cap, cur, rfl, hb, hg, by simp at hc; omega, hm, hsz, ?_⟩⟩
    have := congrArg (List.take n) hx
    rw [List.take_take] at this
    simp only [List.length_singleton, Nat.mul_one] at this ⊢
    rw [Nat.min_eq_left (by omega)] at this
    rw [this, List.take_append_of_le_length (by omega), List.take_of_length_le (by omega)]
theorem ownR_step {w w' : World} {nv : Value} {n : Nat} {l : List Value} (h : w.ownsRow 0 73 17 nv n l) (hS : Below w.heap.size w w') : w'.ownsRow 0 73 17 nv n l := by
  refine ⟨h.1, ?_⟩
  rcases h.2 with h1 | ⟨g, cap, cur, rfl, hb, hg, h2⟩
  · exact .inl h1
  · exact .inr ⟨g, cap, cur, rfl, hb, (hS.block g (Array.getElem?_eq_some_iff.1 hg).1).trans hg, h2⟩
section
variable {P : Program} {Q : Exit → Act → World → Prop} {ls es : List Nat} {Te : List (Nat × Option Tmp) → Act → Prop} {ops : Array Oper} {o : Oper} {r : List Oper} {acc : List (Nat × Option Tmp)} {a : Act} {i g : Nat} {W : World} {Pr : Kl} {l : List Value} {T ty : TypeId} {x : Operand} {d : TypeDesc}
theorem SeqO.rowG (ho : o.op = .load ty x) (hx : a.eval x = .pointer (some ⟨g, 0, none⟩)) (hB : Box W g l T) (hu : P.underlying ty = some d) (hd : (match d with | .struct _ | .array _ _ => true | _ => false) = true)
    (hsz : (P.info? ty).map (·.size) = some l.length) (hi : (!ls.contains i && !es.contains i && Pr.all fun e => e.1 != i) = true) (hw : Region.wanted o (yielded ops a.tmps) = true)
    (h2 : SeqO P ops Q (SG W Pr) ls es Te (i + 1) r acc (a.put o.dst (.agg l.toArray))) : SeqO P ops Q (SG W Pr) ls es Te i (o :: r) acc a :=
  SeqO.valG hi hw (fun w hb => run_load_row ho hx (hB.step hb) hu hd hsz) h2
end
set_option maxRecDepth 100000 in
set_option maxHeartbeats 4000000 in
theorem freshNew {T : Tn} {b c : Nat} {pl : Int → Option Int} {x : Nd} (w : World) (h : TX w T [] b c pl) (hN : T.N < 100000) :
    Calls Tryz.prog 33 #[.pointer (some ⟨T.p, 0, none⟩), .agg (ndv x).toArray] w fun e w' => ∃ at_ T' F', e = .returned (.int .i64 ((at_ : Nat) : Int)) ∧ Fresh w w' T [] b c pl x at_ T' F' := by
  obtain ⟨nv, c2, hown, hob, ⟨A, hA⟩, L, hL, hL2, hset⟩ := h.to.nv h.cl
  obtain ⟨A3, cap3, h3, hs3, hA3, hc3⟩ := h.fr.sl
  have c3 := h.to.fr
  rw [h3] at c3
  simp only [iv_len, List.length_nil] at c3 hc3
  have hp := h.pLt
  have HT := Lib.hid h
  have HO := Lib.hid hown
  have HB := Lib.hid hob
  have HL := Lib.hid hL
  have HS := Lib.hid hset
  clear h hown hob hA hs3 hA3 hL hset
  go_enter Tryz.func33, Tryz.ntmps33
  go_wp2_with fail
  have hB : Box (w.alloc (.cells (ndv x).toArray 73)) w.heap.size (ndv x) 73 := Box.new rfl
  have hS : Below w.heap.size w (w.alloc (.cells (ndv x).toArray 73)) := (Below.refl _ _).alloc (Nat.le_refl _) _
  obtain ⟨g0, hg0⟩ : ∃ g0, w.heap.size = g0 := ⟨_, rfl⟩
  have hT1 := HT.out.step hS
  have hO1 : (w.alloc (.cells (ndv x).toArray 73)).ownsRow 0 73 17 nv T.N (rows T.m T.N) := ownR_step HO.out hS
  have hL1 := HL.out.step hS
  have hF := Fr.of_below (S := own T b) hS
  revert hB hS hT1 hO1 hL1 hF
  rw [hg0]
  generalize w.alloc (.cells (ndv x).toArray 73) = w1
  intro hB hS hT1 hO1 hL1 hF
  clear HT HO HL c2 c3 hp
  have HT := Lib.hid hT1; have HO := Lib.hid hO1; have HL := Lib.hid hL1
  have c2 : w1.cell? ⟨T.p, 2, none⟩ = some nv := by rw [hL1.cell]; exact hL2
  have hp := hL1.lt
  clear hT1 hO1 hL1
  have HB0 := Lib.hid hB.lt
  have HBx := Lib.hid hB
  clear hB
  refine wp_region_ph [(1, .pure), (7, .free [6])] (by kernel_rfl) (by kernel_rfl) ?_
  refine Ph.pur (v := .pointer (some ⟨T.p, 0, none⟩)) (by rfl) (by rfl) ?hQ (by rfl) (fun w => by go_simp) ?_
  case hQ => intro c a v w h; exact h
  simp only [Act.put, List.setIfInBounds_toArray, List.set_cons_zero, List.set_cons_succ]
  refine Ph.gend [(6, newR w1.heap.size 1 (ndv x) 73)] (by rfl) ?_
  simp only [List.drop_succ_cons, List.drop_zero, List.take_succ_cons, List.take_zero, Nat.reduceSub, Nat.sub_zero]
  iterate 4 (refine SeqO.valG (v := ?_) (by rfl) (by rfl) (fun w1 hS => ?_) ?_; rotate_left; (· obtain ⟨hc, hcf⟩ := bcell hS; go_simp; try with_reducible rfl); simp only [Act.put, List.setIfInBounds_toArray, List.set_cons_zero, List.set_cons_succ])
  refine SeqO.rowG (l := ndv x) (by rfl) (by rfl) HBx.out Tryz.underlying73 (by rfl) (szN _) (by rfl) (by rfl) ?_
  simp only [Act.put, List.setIfInBounds_toArray, List.set_cons_zero, List.set_cons_succ]
  refine SeqO.newG (l := ndv x) (T := 73) (n := 1) (B := w1.heap.size) (by rfl) (by simp) (by rfl) (fun w => by simp only [ndv, bdv, List.cons_append, List.nil_append]; go_simp) (Nat.le_refl _) ?_
  refine SeqO.nilG (by rfl) fun u w2 hS2 hK => ?_
  obtain ⟨g1, hg1, hge1, hB1⟩ := hK _ (List.mem_cons_self ..)
  clear hK
  simp only [List.nil_append, List.cons_append, List.foldl_cons, List.foldl_nil, hg1]
  clear hg1
  have hB1 : Box w2 g1 (ndv x) 73 := hB1
  refine Ph.last ?_
  simp only [List.drop_succ_cons, List.drop_zero, List.take_succ_cons, List.take_zero, Nat.reduceSub, Nat.sub_zero]
  have hT2 := HT.out.step hS2
  have hO2 := ownR_step HO.out hS2
  have hL2' := HL.out.step hS2
  have hF2 := hF.trans (Fr.of_below (S := own T b) hS2) (fun j h => .inl h)
  have hat : At' w2 g1 0 (ndv x) := fun j v hv => by rw [hB1.cell, Nat.zero_add]; exact hv
  have hsz : g0 ≤ w2.heap.size := by rw [← hg0]; exact hF2.size
  clear HT HO HL HB0 HBx hB1 c2 hp hS2 hS hF
  refine wpL_appN (T := T) (nv := nv) (gx := g1) (z := x) (by rfl) (.tmp 43) (.tmp 45) (by rfl) (by rfl) hO2 (by rfl) hat (by omega) ?_
  intro w3 g' cap' L' hG hg' hBg hLen hC hcap hmax
  conv => arg 5; simp only [Act.put, List.setIfInBounds_toArray, List.set_cons_zero, List.set_cons_succ]
  have hblk : ∀ k, k < w2.heap.size → k ≠ T.g ∨ T.g = T.p → w3.heap[k]? = w2.heap[k]? := fun k hk hne => hG.block k hk fun e => by
    obtain ⟨h1, h2⟩ := HB.out k e.symm
    rcases hne with hne | hne
    · exact hne h1
    · exact h2 hne
  have hne' : g' ≠ T.p ∧ (g' = T.g ∨ g' = w2.heap.size) := by
    rcases hg' with h | h
    · obtain ⟨h1, h2⟩ := HB.out _ h
      exact ⟨by rw [h1]; exact h2, .inl h1⟩
    · exact ⟨by have := hT2.pLt; omega, .inr h⟩
  have hL3 : Box w3 T.p L 60 := Box.block hL2' (hblk _ hT2.pLt (by
    by_cases e : T.g = T.p
    · exact .inr e
    · exact .inl fun h => e h.symm))
  have c0 := hL3.cell 2
  rw [hL2] at c0
  have hfr : OwnV w3 0 3 T.fr (iv []) := hT2.fr.block fun k hk hlt => hblk k hlt (.inl (hT2.fp k hk).2.1)
  have hvm : VM w3 b (im pl) c := hT2.vm.block (hblk b hT2.vm.lt (.inl hT2.bg))
  have hF3 : Fr w w3 (own T b) := hF2.trans (S' := fun k => some k = nv.ownBlock) ⟨hG.os, hG.tape, hG.output, hG.size, fun k hk hn => hG.block k hk hn⟩ (fun k hk => .inl (.inr (.inl (HB.out k hk.symm).1)))
  have hT3 : TN (w3.setCell ⟨T.p, 2, none⟩ (.slice (some ⟨g', 0, none⟩) (T.N + 1 : Nat) cap')) { T with g := g', N := T.N + 1, cap := cap', m := st T.m T.N x } :=
    ⟨(hL3.set 2 _).cast (HS.out _ g' cap' (T.N + 1) rfl), ⟨L', hBg.other (fun e => hne'.1 e.symm) _, hLen, hC⟩, hcap, fun e => hne'.1 e.symm, by show T.N + 1 ≤ 100000; omega⟩
  have hX : TX (w3.setCell ⟨T.p, 2, none⟩ (.slice (some ⟨g', 0, none⟩) (T.N + 1 : Nat) cap')) { T with g := g', N := T.N + 1, cap := cap', m := st T.m T.N x } [] b c pl := by
    refine ⟨.inr hT3, hfr.block fun k hk _ => heap_setCell _ _ _ _ fun e => (hT2.fp k hk).1 e, hT2.mp, hvm.block (heap_setCell _ _ _ _ fun e => hT2.bp e), hT2.bp, ?_, fun k hk => ⟨(hT2.fp k hk).1, ?_, (hT2.fp k hk).2.2⟩, hmax⟩
    · show b ≠ g'
      rcases hne'.2 with e | e
      · rw [e]; exact hT2.bg
      · have := hT2.vm.lt; omega
    · show k ≠ g'
      rcases hne'.2 with e | e
      · rw [e]; exact (hT2.fp k hk).2.1
      · have := (hT2.fr.lt k hk).2; omega
  have hFr : Fr w (w3.setCell ⟨T.p, 2, none⟩ (.slice (some ⟨g', 0, none⟩) (T.N + 1 : Nat) cap')) (own T b) := hF3.trans (S' := fun k => k = T.p) ⟨rfl, rfl, rfl, by simp [World.setCell], fun k hk hn => heap_setCell _ _ _ _ hn⟩ (fun k hk => .inl (.inl hk))
  have hOw : ∀ k, own { T with g := g', N := T.N + 1, cap := cap', m := st T.m T.N x } b k → own T b k ∨ w.heap.size ≤ k := by
    intro k hk
    rcases hk with hk | hk | hk | hk
    · exact .inl (.inl hk)
    · rcases hne'.2 with e | e
      · exact .inl (.inr (.inl (hk.trans e)))
      · exact .inr (by have : k = g' := hk; omega)
    · exact .inl (.inr (.inr (.inl hk)))
    · exact .inl (.inr (.inr (.inr hk)))
  have FIN := Lib.hid (show Fresh w (w3.setCell ⟨T.p, 2, none⟩ (.slice (some ⟨g', 0, none⟩) (T.N + 1 : Nat) cap')) T [] b c pl x T.N { T with g := g', N := T.N + 1, cap := cap', m := st T.m T.N x } [] from
    ⟨hX, rfl, rfl, rfl, rfl, Nat.lt_succ_self _, hT3, .inr ⟨rfl, rfl, rfl, rfl⟩, hFr, hOw⟩)
  have c5 : (w3.setCell ⟨T.p, 2, none⟩ (.slice (some ⟨g', 0, none⟩) (T.N + 1 : Nat) cap')).cell? ⟨T.p, 2, none⟩ = some (.slice (some ⟨g', 0, none⟩) (T.N + 1 : Nat) cap') := hT3.nodes
  have f0 := hL3.free 2
  clear hX hFr hOw hT3 hF3 hvm hfr hblk hne' hBg hLen hC hG hg' hL3 hT2 hO2 hL2' hF2 hat
  iterate 2 (with_reducible refine wpL_val (v := ?_) ?_ ?_ ?_; rotate_left; (· kernel_rfl); (· go_simp; try with_reducible rfl); conv => arg 5; simp only [Act.put, List.setIfInBounds_toArray, List.set_cons_zero, List.set_cons_succ])
  refine wpL_sc (x := .tmp 48) (y := .tmp 46) (b := T.p) (off := 2) (v := .slice (some ⟨g', 0, none⟩) (T.N + 1 : Nat) cap') (by rfl) (by rfl) (by rfl) (by rfl) (by rfl) (by rfl) szNs (by rw [c0]; rfl) f0 ?_
  conv => arg 5; simp only [Act.put, List.setIfInBounds_toArray, List.set_cons_zero, List.set_cons_succ]
  refine wpList_nil ?_
  revert FIN c5
  generalize w3.setCell ⟨T.p, 2, none⟩ (.slice (some ⟨g', 0, none⟩) (T.N + 1 : Nat) cap') = w4
  intro FIN c5
  go_wp2_with fail
  exact bodyPost_ret (v := .int .i64 (T.N : Int)) (by simp [results, Tryz.results33, go_sem, *]) rfl ⟨T.N, _, [], rfl, FIN.out⟩
set_option maxRecDepth 100000 in
set_option maxHeartbeats 4000000 in
theorem freshFree {T : Tn} {b c k : Nat} {F0 : List Int} {pl : Int → Option Int} {x : Nd} (w : World) (h : TX w T (F0 ++ [(k : Int)]) b c pl) (hk : k < T.N) (hF : F0.length < 100000) :
    Calls Tryz.prog 33 #[.pointer (some ⟨T.p, 0, none⟩), .agg (ndv x).toArray] w fun e w' => ∃ at_ T' F', e = .returned (.int .i64 ((at_ : Nat) : Int)) ∧ Fresh w w' T (F0 ++ [(k : Int)]) b c pl x at_ T' F' := by
  have hT : TN w T := by
    rcases h.to with ⟨h0, _⟩ | h
    · omega
    · exact h
  obtain ⟨A, cap, h3, hs3, hA, hc3⟩ := h.fr.sl
  have hlen : (iv (F0 ++ [(k : Int)])).length = F0.length + 1 := by rw [iv_len, List.length_append]; rfl
  rw [hlen] at h3 hs3 hc3
  obtain ⟨gf, rfl⟩ : ∃ gf, A = some ⟨gf, 0, none⟩ := by
    rcases hA with ⟨_, _, e⟩ | h
    · rw [e] at hlen; cases hlen
    · exact h
  have ck : w.cell? ⟨gf, F0.length, none⟩ = some (.int .i64 (k : Int)) := by
    obtain ⟨b', off, e, _, h2⟩ := hs3.2 (by omega)
    cases e
    have := h2 F0.length (.int .i64 k) (by simp [iv])
    rwa [Nat.zero_add] at this
  have hgf : gf < w.heap.size := (h.fr.lt gf (by rw [h3]; rfl)).2
  have c3 := h.to.fr
  rw [h3] at c3
  obtain ⟨n, hn⟩ : ∃ n, F0.length = n := ⟨_, rfl⟩
  rw [hn] at c3 ck hc3 hF
  have hp := h.pLt
  have hg := (TN.lt hT).2
  have c2 := hT.nodes
  have k0 : 0 ≤ (k : Int) ∧ (k : Int) < T.N := by omega
  have v1 : IntKind.i64.wrap (n : Int) = n := by rw [IntKind.wrap_i64]; omega
  have f3 : w.frozen? ⟨T.p, 3, none⟩ = false := hT.box.free 3
  have HT := Lib.hid h; have HN := Lib.hid hT; have H3 := Lib.hid h3; have HLN := Lib.hid hn; have HLEN := Lib.hid hlen
  clear h hT h3 hs3 hA hlen hn
  go_enter Tryz.func33, Tryz.ntmps33
  go_wp2_with fail
  have e3 : T.fr = .slice (some ⟨gf, 0, none⟩) (n + 1) cap := H3.out.trans (by rw [HLN.out])
  obtain ⟨T1, hT1⟩ : ∃ T1 : Tn, { T with fr := .slice (some ⟨gf, 0, none⟩) n cap } = T1 := ⟨_, rfl⟩
  have hN1 : TN (w.setCell ⟨T.p, 3, none⟩ (.slice (some ⟨gf, 0, none⟩) n cap)) T1 := by rw [← hT1]; exact TN.setFr HN.out _
  have hX1 : TX (w.setCell ⟨T.p, 3, none⟩ (.slice (some ⟨gf, 0, none⟩) n cap)) T1 F0 b c pl := by
    have hgp : gf ≠ T.p := (HT.out.fp gf (by rw [e3]; rfl)).1
    refine ⟨.inr hN1, ?_, by rw [← hT1]; exact HT.out.mp, HT.out.vm.block (heap_setCell _ _ _ _ fun e => HT.out.bp e), by rw [← hT1]; exact HT.out.bp, by rw [← hT1]; exact HT.out.bg, fun j hj => ?_, by rw [← hT1]; exact HT.out.cl⟩
    · rw [← hT1]
      have := HT.out.fr
      rw [e3] at this
      refine (OwnV.cut (v := .int .i64 (k : Int)) (by simpa [iv] using this) (by rw [iv_len]; exact HLN.out)).block fun j hj _ => heap_setCell _ _ _ _ fun e => ?_
      have : gf = j := by simpa [Value.ownBlock] using hj
      rw [this] at hgp; exact hgp e
    · rw [← hT1] at hj ⊢
      have hj' : T.fr.ownBlock = some j := by rw [e3]; exact hj
      exact HT.out.fp j hj'
  have hF1 : Fr w (w.setCell ⟨T.p, 3, none⟩ (.slice (some ⟨gf, 0, none⟩) n cap)) (own T b) := ⟨rfl, rfl, rfl, by simp [World.setCell], fun k hk hn => heap_setCell _ _ _ _ fun e => hn (.inl e)⟩
  have hO1 : ∀ j, own T1 b j → own T b j := fun j hj => by
    rw [← hT1] at hj
    rcases hj with hj | hj | hj | hj
    · exact .inl hj
    · exact .inr (.inl hj)
    · exact .inr (.inr (.inl (by rw [e3]; exact hj)))
    · exact .inr (.inr (.inr hj))
  have hsz : (w.setCell ⟨T.p, 3, none⟩ (.slice (some ⟨gf, 0, none⟩) n cap)).heap.size = w.heap.size := by simp [World.setCell]
  revert hN1 hX1 hF1 hsz
  generalize w.setCell ⟨T.p, 3, none⟩ (.slice (some ⟨gf, 0, none⟩) n cap) = w1
  intro hN1 hX1 hF1 hsz
  have hB : Box (w1.alloc (.cells (ndv x).toArray 73)) w.heap.size (ndv x) 73 := Box.new hsz.symm
  have hS : Below w1.heap.size w1 (w1.alloc (.cells (ndv x).toArray 73)) := (Below.refl _ _).alloc (Nat.le_refl _) _
  have hN2 := hN1.step hS
  have hX2 := hX1.step hS
  have hF2 := hF1.trans (Fr.of_below (S := own T b) hS) (fun j h => .inl h)
  obtain ⟨g0, hg0⟩ : ∃ g0, w.heap.size = g0 := ⟨_, rfl⟩
  revert hB hN2 hX2 hF2
  rw [hg0]
  generalize w1.alloc (.cells (ndv x).toArray 73) = w2
  intro hB hN2 hX2 hF2
  clear hN1 hX1 hF1 hS c2 c3 ck hgf hp hg f3
  have hpT : T1.p = T.p ∧ T1.g = T.g ∧ T1.N = T.N ∧ T1.cap = T.cap ∧ T1.m = T.m ∧ T1.top = T.top ∧ T1.mg = T.mg := by rw [← hT1]; exact ⟨rfl, rfl, rfl, rfl, rfl, rfl, rfl⟩
  have c2 : w2.cell? ⟨T.p, 2, none⟩ = some (.slice (some ⟨T.g, 0, none⟩) T.N T.cap) := by have := hN2.nodes; rw [hpT.1, hpT.2.1, hpT.2.2.1, hpT.2.2.2.1] at this; exact this
  have hp := (TN.lt hN2).1
  rw [hpT.1] at hp
  have hN3 := Lib.hid hN2; have hX3 := Lib.hid hX2; have hF3 := Lib.hid hF2; have hO3 := Lib.hid hO1; have hB3 := Lib.hid hB; have P := Lib.hid hpT
  have hpT2 := hpT.2.1
  clear hN2 hX2 hF2 hO1 hB hT1 e3 hpT
  refine wp_region_ph [(7, .free [])] (by kernel_rfl) (by kernel_rfl) ?_
  refine Ph.belowd ?_
  simp only [List.drop_succ_cons, List.drop_zero, List.take_succ_cons, List.take_zero, Nat.reduceSub, Nat.sub_zero]
  iterate 5 (refine SeqO.val (v := ?_) (by rfl) (by rfl) (fun w1 hS => ?_) ?_; rotate_left; (· obtain ⟨hc, hcf⟩ := bcell hS; go_simp; try with_reducible rfl); simp only [Act.put, List.setIfInBounds_toArray, List.set_cons_zero, List.set_cons_succ])
  refine SeqO.row (l := ndv x) (by rfl) (by rfl) hB3.out Tryz.underlying73 (by rfl) (szN _) (by rfl) (by rfl) ?_
  simp only [Act.put, List.setIfInBounds_toArray, List.set_cons_zero, List.set_cons_succ]
  iterate 1 (refine SeqO.val (v := ?_) (by rfl) (by rfl) (fun w1 hS => ?_) ?_; rotate_left; (· obtain ⟨hc, hcf⟩ := bcell hS; go_simp; try with_reducible rfl); simp only [Act.put, List.setIfInBounds_toArray, List.set_cons_zero, List.set_cons_succ])
  refine SeqO.nil0 fun w3 hS3 => ?_
  refine Ph.last ?_
  simp only [List.drop_succ_cons, List.drop_zero, List.take_succ_cons, List.take_zero, Nat.reduceSub, Nat.sub_zero]
  have hk1 : k < T1.N := by rw [P.out.2.2.1]; exact hk
  have hN4 := hN3.out.step hS3
  refine wpList_store_mid (by rfl) 73 (.tmp 37) (.tmp 36) (by rfl) T.g (k * 17) (ndv x).toArray (by rfl) (by rfl) (by rw [← hpT2]; exact TN.thereN hN4 hk1) (by rw [szN x]; rfl) (nd_one x) ?_
  have hX4 := (hX3.out.step hS3).moved (m := st T1.m k x) (t := T1.top) (TN.putAll hN4 hk1 x) (Mod.cells _ _ _ (Mod.refl _ _ _))
  have hF4 := (hF3.out.trans (Fr.of_below (S := own T b) hS3) (fun j h => .inl h)).trans (Fr.of_mod (p := T1.p) (g := T1.g) (S := own T b) (Mod.cells (p := T1.p) (g := T1.g) (ndv x) (k * 17) w3 (Mod.refl _ _ _)) (.inl P.out.1) (.inr (.inl P.out.2.1))) (fun j h => .inl h)
  have hN5 := TN.putAll hN4 hk1 x
  have FIN := Lib.hid (show Fresh w (w3.setCells T1.g (k * 17) (ndv x)) T (F0 ++ [(k : Int)]) b c pl x k { T1 with m := st T1.m k x } F0 from
    ⟨hX4, P.out.1, P.out.2.2.2.2.2.1, P.out.2.2.2.2.2.2, by show st T1.m k x = _; rw [P.out.2.2.2.2.1], hk1, hN5, .inl ⟨rfl, P.out.2.2.1⟩, hF4, fun j hj => .inl (hO3.out j hj)⟩)
  rw [hpT2] at FIN
  clear hX4 hF4 hN5 hN4 c2 hp hN3 hX3 hF3 hO3 hB3
  refine wpList_nil ?_
  revert FIN
  show Hid (Fresh w (w3.setCells T.g (k * 17) (ndv x).toArray.toList) _ _ _ _ _ _ _ _ _) → _
  generalize w3.setCells T.g (k * 17) (ndv x).toArray.toList = w4
  intro FIN
  go_wp2_with fail
  exact bodyPost_ret (v := .int .i64 (k : Int)) (by simp [results, Tryz.results33, go_sem, *]) rfl ⟨k, _, F0, rfl, FIN.out⟩
/-- A fresh node, whatever is free. -/
theorem freshC {T : Tn} {b c : Nat} {F : List Int} {pl : Int → Option Int} {x : Nd} (w : World) (h : TX w T F b c pl) (hF : ∀ k ∈ F, 0 ≤ k ∧ k < T.N) (hl : F.length < 100000) (hN : F = [] → T.N < 100000) :
    Calls Tryz.prog 33 #[.pointer (some ⟨T.p, 0, none⟩), .agg (ndv x).toArray] w fun e w' => ∃ at_ T' F', e = .returned (.int .i64 ((at_ : Nat) : Int)) ∧ Fresh w w' T F b c pl x at_ T' F' := by
  rcases List.eq_nil_or_concat F with rfl | ⟨F0, k, rfl⟩
  · exact freshNew w h (hN rfl)
  · rw [List.concat_eq_append] at *
    have hk := hF k (by simp)
    obtain ⟨k, rfl⟩ : ∃ n : Nat, k = n := ⟨k.toNat, by omega⟩
    exact freshFree w h (by omega) (by simp at hl; omega)
end TrY
end Go.Proofs.YtbcjnckejkjfeaaGreat
namespace Go.Proofs.YtbcjnckejkjfeaaGreat
set_option linter.unusedVariables false
set_option linter.unusedSimpArgs false
open Go.RowKit Go.NP
namespace TrK
open TrP TrW TrC TrA TrX
theorem cf60 (args : Array Value) (w1 : World) : (callFunc 60 args).run Tryz.prog w1 = .ok (.enter 60 args) w1 := enters Tryz.func60 (by kernel_rfl) (by kernel_rfl) args w1
theorem cf59 (args : Array Value) (w1 : World) : (callFunc 59 args).run Tryz.prog w1 = .ok (.enter 59 args) w1 := enters Tryz.func59 (by kernel_rfl) (by kernel_rfl) args w1
def more (m : M) (a k : Int) : Int := size (join (m k).fat (m a).fat) - size (m k).fat
theorem fatAt {w : World} {T : Tn} (h : TN w T) {i : Nat} (hi : i < T.N) : At' w T.g (i * 17) (bdv (T.m i).fat) := fun j v hv => by
  refine h.cell hi ?_
  have hj : j < 6 := by
    rcases Nat.lt_or_ge j 6 with h | h
    · exact h
    · rw [List.getElem?_eq_none (by exact h)] at hv; cases hv
  show (bdv (T.m i).fat ++ bdv (T.m i).b ++ _)[j]? = _
  rw [List.append_assoc, List.getElem?_append_left (by exact hj)]; exact hv
set_option maxRecDepth 100000 in
set_option maxHeartbeats 2000000 in
theorem moreC {T : Tn} {k a gt ga : Nat} (w : World) (h : TN w T) (hk : k < T.N) (ha : a < T.N) (hgt : Box w gt [.pointer (some ⟨T.p, 0, none⟩)] 24) (hga : Box w ga [.int .i64 (a : Int)] 3) :
    RetB Tryz.prog 58 #[.int .i64 (k : Int), .pointer (some ⟨gt, 0, none⟩), .pointer (some ⟨ga, 0, none⟩)] w (.int .i64 (more T.m a k)) := by
  obtain ⟨fk, hfk⟩ : ∃ b, (T.m k).fat = b := ⟨_, rfl⟩
  obtain ⟨fa, hfa⟩ : ∃ b, (T.m a).fat = b := ⟨_, rfl⟩
  have r1 := size_range (a := join fk fa)
  have r2 := size_range (a := fk)
  have hw : IntKind.i64.wrap (size (join fk fa) - size fk) = size (join fk fa) - size fk := by rw [IntKind.wrap_i64]; omega
  have A1 := Lib.hid (fatAt h hk)
  have A2 := Lib.hid (fatAt h ha)
  have HM := Lib.hid (show more T.m a k = size (join fk fa) - size fk by unfold more; rw [hfk, hfa])
  rw [hfk] at A1
  rw [hfa] at A2
  have c2 := h.nodes
  have c5 := hgt.cell 0
  have c6 := hga.cell 0
  simp only [List.getElem?_cons_zero] at c5 c6
  obtain ⟨hp, hg⟩ := TN.lt h
  have l5 := hgt.lt
  have l6 := hga.lt
  have HG := Lib.hid hg
  have k0 : 0 ≤ (k : Int) ∧ (k : Int) < T.N := by omega
  have a0 : 0 ≤ (a : Int) ∧ (a : Int) < T.N := by omega
  rw [HM.out]
  clear h hfk hfa HM hgt hga r1 r2
  unfold RetB
  go_enter Tryz.func58, Tryz.ntmps58
  go_wp2_with fail
  refine wp_region_ph [(28, .free [])] (by kernel_rfl) (by kernel_rfl) ?_
  refine Ph.belowd ?_
  simp only [List.drop_succ_cons, List.drop_zero, List.take_succ_cons, List.take_zero, Nat.reduceSub, Nat.sub_zero]
  iterate 7 (refine SeqO.val (v := ?_) (by rfl) (by rfl) (fun w1 hS => ?_) ?_; rotate_left; (· obtain ⟨hc, hcf⟩ := bcell hS; go_simp; try with_reducible rfl); simp only [Act.put, List.setIfInBounds_toArray, List.set_cons_zero, List.set_cons_succ])
  refine SeqO.at (l := [.int .i64 fk.lo.x, .int .i64 fk.lo.y, .int .i64 fk.lo.z, .int .i64 fk.hi.x, .int .i64 fk.hi.y, .int .i64 fk.hi.z]) (by rfl) (by rfl) HG.out A1.out Tryz.underlying38 (by rfl) (by kernel_rfl) (by rfl) (by rfl) ?_
  simp only [Act.put, List.setIfInBounds_toArray, List.set_cons_zero, List.set_cons_succ]
  iterate 7 (refine SeqO.val (v := ?_) (by rfl) (by rfl) (fun w1 hS => ?_) ?_; rotate_left; (· obtain ⟨hc, hcf⟩ := bcell hS; go_simp; try with_reducible rfl); simp only [Act.put, List.setIfInBounds_toArray, List.set_cons_zero, List.set_cons_succ])
  refine SeqO.at (l := [.int .i64 fa.lo.x, .int .i64 fa.lo.y, .int .i64 fa.lo.z, .int .i64 fa.hi.x, .int .i64 fa.hi.y, .int .i64 fa.hi.z]) (by rfl) (by rfl) HG.out A2.out Tryz.underlying38 (by rfl) (by kernel_rfl) (by rfl) (by rfl) ?_
  simp only [Act.put, List.setIfInBounds_toArray, List.set_cons_zero, List.set_cons_succ]
  refine SeqO.callv (by rfl) (by rfl) (by rfl) cf60 (by simp [Act.eval]) (fun w1 hS => joinC fk fa w1) ?_
  simp only [Act.put, List.setIfInBounds_toArray, List.set_cons_zero, List.set_cons_succ]
  refine SeqO.callv (by rfl) (by rfl) (by rfl) cf59 (by simp [Act.eval]) (fun w1 hS => sizeC (join fk fa) w1) ?_
  simp only [Act.put, List.setIfInBounds_toArray, List.set_cons_zero, List.set_cons_succ]
  iterate 7 (refine SeqO.val (v := ?_) (by rfl) (by rfl) (fun w1 hS => ?_) ?_; rotate_left; (· obtain ⟨hc, hcf⟩ := bcell hS; go_simp; try with_reducible rfl); simp only [Act.put, List.setIfInBounds_toArray, List.set_cons_zero, List.set_cons_succ])
  refine SeqO.at (l := [.int .i64 fk.lo.x, .int .i64 fk.lo.y, .int .i64 fk.lo.z, .int .i64 fk.hi.x, .int .i64 fk.hi.y, .int .i64 fk.hi.z]) (by rfl) (by rfl) HG.out A1.out Tryz.underlying38 (by rfl) (by kernel_rfl) (by rfl) (by rfl) ?_
  simp only [Act.put, List.setIfInBounds_toArray, List.set_cons_zero, List.set_cons_succ]
  refine SeqO.callv (by rfl) (by rfl) (by rfl) cf59 (by simp [Act.eval]) (fun w1 hS => sizeC fk w1) ?_
  simp only [Act.put, List.setIfInBounds_toArray, List.set_cons_zero, List.set_cons_succ]
  iterate 1 (refine SeqO.val (v := ?_) (by rfl) (by rfl) (fun w1 hS => ?_) ?_; rotate_left; (· obtain ⟨hc, hcf⟩ := bcell hS; go_simp; try with_reducible rfl); simp only [Act.put, List.setIfInBounds_toArray, List.set_cons_zero, List.set_cons_succ])
  refine SeqO.nil0 fun w1 hS => ?_
  refine Ph.last ?_
  simp only [List.drop_succ_cons, List.drop_zero, List.take_succ_cons, List.take_zero, Nat.reduceSub, Nat.sub_zero]
  go_wp2_with fail
  exact bodyPost_ret (v := .int .i64 (size (join fk fa) - size fk)) (by simp [results, Tryz.results58, go_sem, *]) rfl ⟨rfl, hS⟩
end TrK
end Go.Proofs.YtbcjnckejkjfeaaGreat
