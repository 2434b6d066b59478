/- A leaf hung: the walk. Condition: the leaf is a fresh node, the tree hangs right. A leaf taken off: the walk. Condition: the tree hangs right, the leaf is in it. Maps by integers: an entry dropped, how many there are, ranged over. No condition. -/
import Derived.Test.YtbcjnckejkjfeaaGreatQaj
import Derived.Test.YtbcjnckejkjfeaaGreatQah
import Derived.Test.YtbcjnckejkjfeaaGreatQae
import Derived.Maps.RangeWalk
namespace Go.Proofs.YtbcjnckejkjfeaaGreat
set_option linter.unusedVariables false
set_option linter.unusedSimpArgs false
open Go.RowKit Go.NP
namespace THg
open TrP TrW TrC TrA TrF TrG TrX TrY TrK
theorem cf58 (args : Array Value) (w1 : World) : (callFunc 58 args).run Tryz.prog w1 = .ok (.enter 58 args) w1 := enters Tryz.func58 (by kernel_rfl) (by kernel_rfl) args w1
/-- The nodes hang as a tree, of these places and leaves. -/
def Shape (m : M) (t : Int) (al lv : List Int) : Prop := (t = -1 ∧ al = [] ∧ lv = []) ∨ ∃ s : Tr, Rep m (-1) s ∧ Fit m s ∧ s.Bal ∧ t = s.ix ∧ s.all.Perm al ∧ s.lv.Perm lv
/-- A tree in memory that hangs right: its places, its leaves, its free places. -/
structure TSm (w : World) (T : Tn) (m0 : M) (F al lv : List Int) (b c : Nat) (pl : Int → Option Int) (K : Nat) : Prop where
  tx : TX w T F b c pl
  sh : Shape m0 T.top al lv
  nd : (al ++ F).Nodup
  rng : ∀ i ∈ al ++ F, 0 ≤ i ∧ i < T.N
  n1 : T.N ≤ K
  n2 : F.length ≤ K
  n3 : al.length ≤ K
abbrev TS (w : World) (T : Tn) (F al lv : List Int) (b c : Nat) (pl : Int → Option Int) (K : Nat) : Prop := TSm w T T.m F al lv b c pl K
/-- What a call leaves of a tree: the leaves' entries are as they were. -/
structure Aft (w w' : World) (T T' : Tn) (b : Nat) (L : List Int) : Prop where
  p : T'.p = T.p
  mg : T'.mg = T.mg
  ent : ∀ i ∈ L, (T'.m i).n = (T.m i).n ∧ (T'.m i).b = (T.m i).b ∧ (T'.m i).fat = (T.m i).fat
  fr : Fr w w' (own T b)
  ow : ∀ k, own T' b k → own T b k ∨ w.heap.size ≤ k
/-- Where the way down stands. -/
structure At (T : Tn) (al lv : List Int) (c : Cx) (s : Tr) : Prop where
  foc : Foc T.m c s
  root : T.top = c.root s.ix
  all : (s.all ++ c.all).Perm al
  lv : (s.lv ++ c.lv).Perm lv
def PA (T : Tn) (al lv : List Int) (i : Value) (n : Nat) : Prop := ∃ c s, i = .int .i64 s.ix ∧ At T al lv c s ∧ s.all.length = n
set_option maxRecDepth 100000 in
set_option maxHeartbeats 4000000 in
theorem hangTop {T : Tn} {F : List Int} {b c K a : Nat} {pl : Int → Option Int} (w : World) (h : TS w T F [] [] b c pl K) (ht : T.top = -1) (ha : a < T.N) (haF : (a : Int) ∉ F) (hl : (T.m a).u = -1 ∧ 1 ≤ (T.m a).n ∧ (T.m a).h = 0 ∧ holds (T.m a).fat (T.m a).b = true) :
    Calls Tryz.prog 35 #[.pointer (some ⟨T.p, 0, none⟩), .int .i64 (a : Int)] w fun e w' => e = .returned (.tuple #[]) ∧ ∃ T' F' al', TS w' T' F' al' [(a : Int)] b c pl (K + 2) ∧ Aft w w' T T' b [(a : Int)] := by
  have hT : TN w T := by
    rcases h.tx.to with ⟨h0, _⟩ | h
    · omega
    · exact h
  have c4 := h.tx.to.topc
  rw [ht] at c4
  have W1 : Below w.heap.size w (w.alloc (.cells [.pointer (some ⟨T.p, 0, none⟩)].toArray 24)) := (Below.refl _ _).alloc (Nat.le_refl _) _
  have W2 : Below w.heap.size w ((w.alloc (.cells [.pointer (some ⟨T.p, 0, none⟩)].toArray 24)).alloc (.cells [.int .i64 (a : Int)].toArray 3)) := W1.alloc (by simp) _
  have B1 : Box ((w.alloc (.cells [.pointer (some ⟨T.p, 0, none⟩)].toArray 24)).alloc (.cells [.int .i64 (a : Int)].toArray 3)) w.heap.size [.pointer (some ⟨T.p, 0, none⟩)] 24 := (Box.new rfl).alloc _
  have B2 : Box ((w.alloc (.cells [.pointer (some ⟨T.p, 0, none⟩)].toArray 24)).alloc (.cells [.int .i64 (a : Int)].toArray 3)) (w.alloc (.cells [.pointer (some ⟨T.p, 0, none⟩)].toArray 24)).heap.size [.int .i64 (a : Int)] 3 := Box.new rfl
  have hT2 := hT.step W2
  have HS := Lib.hid h; have HL := Lib.hid hl
  clear h hT hl c4
  go_enter Tryz.func35, Tryz.ntmps35
  iterate 3 go_step
  refine wpL_go (v := .pointer (some ⟨w.heap.size, 0, none⟩)) (w' := w.alloc (.cells [.pointer (some ⟨T.p, 0, none⟩)].toArray 24)) (by kernel_rfl) (by go_simp) ?_
  conv => arg 5; simp only [Act.put, List.setIfInBounds_toArray, List.set_cons_zero, List.set_cons_succ]
  refine wpL_go (v := .pointer (some ⟨(w.alloc (.cells [.pointer (some ⟨T.p, 0, none⟩)].toArray 24)).heap.size, 0, none⟩)) (w' := (w.alloc (.cells [.pointer (some ⟨T.p, 0, none⟩)].toArray 24)).alloc (.cells [.int .i64 (a : Int)].toArray 3)) (by kernel_rfl) (by go_simp) ?_
  conv => arg 5; simp only [Act.put, List.setIfInBounds_toArray, List.set_cons_zero, List.set_cons_succ]
  refine wpList_nil ?_
  revert W2 B1 B2 hT2
  generalize (w.alloc (.cells [.pointer (some ⟨T.p, 0, none⟩)].toArray 24)).heap.size = gb
  generalize (w.alloc (.cells [.pointer (some ⟨T.p, 0, none⟩)].toArray 24)).alloc (.cells [.int .i64 (a : Int)].toArray 3) = w1
  intro W2 B1 B2 hT2
  have HT := Lib.hid hT2
  have c4 : w1.cell? ⟨T.p, 4, none⟩ = some (.int .i64 (-1)) := by have := (TO.topc (.inr hT2)); rw [ht] at this; exact this
  have c5 := B1.cell 0
  have c6 := B2.cell 0
  simp only [List.getElem?_cons_zero] at c5 c6
  have l4 := hT2.box.lt
  have l5 := B1.lt
  have l6 := B2.lt
  have u1 : ((-1 : Int) == -1) = true := by decide
  clear hT2 B1 B2 W1
  go_wp2_with (refine wpL_tf (T := T) (x := .tmp 17) (y := .tmp 15) (n := (a : Int)) (by rfl) (by rfl) (by rfl) (by rfl) HT.out ?_; intro w2 h2 m2)
  simp only [Act.put]
  refine bodyPost_ret (v := .tuple #[]) (by simp [results, Tryz.results35, go_sem]) rfl ?_
  have hx := HS.out.tx.step W2
  have hx2 := hx.moved (m := T.m) (t := (a : Int)) h2 m2
  have L := HL.out
  refine ⟨rfl, { T with top := (a : Int) }, F, [(a : Int)], ⟨hx2, .inr ⟨.leaf a, ⟨L.1, L.2.1⟩, L.2.2, trivial, rfl, List.Perm.refl _, List.Perm.refl _⟩, ?_, fun i hi => ?_, ?_, ?_, ?_⟩, rfl, rfl, fun i hi => ⟨rfl, rfl, rfl⟩, ?_, fun k hk => .inl hk⟩
  · exact List.nodup_cons.2 ⟨haF, by simpa using HS.out.nd⟩
  · rcases List.mem_cons.1 hi with e | hi
    · subst e; show 0 ≤ (a : Int) ∧ (a : Int) < T.N; omega
    · exact HS.out.rng i hi
  · have := HS.out.n1; show T.N ≤ K + 2; omega
  · have := HS.out.n2; omega
  · show 1 ≤ K + 2; omega
  · exact (Fr.of_below (S := own T b) W2).trans (Fr.of_mod (S := own T b) m2 (.inl rfl) (.inr (.inl rfl))) (fun j h => .inl h)
theorem PA.ex {T : Tn} {al lv : List Int} {i : Value} {n : Nat} (h : PA T al lv i n) : ∃ c s, i = .int .i64 s.ix ∧ At T al lv c s ∧ s.all.length = TrG.least (PA T al lv i) := (TrG.least_ok h).1
theorem PA.le {T : Tn} {al lv : List Int} {c : Cx} {s : Tr} (h : At T al lv c s) : TrG.least (PA T al lv (.int .i64 s.ix)) ≤ s.all.length := (TrG.least_ok (P := PA T al lv (.int .i64 s.ix)) (n := s.all.length) ⟨c, s, rfl, h, rfl⟩).2 _ ⟨c, s, rfl, h, rfl⟩
theorem At.left {T : Tn} {al lv : List Int} {c : Cx} {i : Int} {l r : Tr} (h : At T al lv c (.node i l r)) : At T al lv (.inl i c r) l := ⟨h.foc.left, h.root, (perm_left i c l r).trans h.all, (plv_left i c l r).trans h.lv⟩
theorem At.right {T : Tn} {al lv : List Int} {c : Cx} {i : Int} {l r : Tr} (h : At T al lv c (.node i l r)) : At T al lv (.inr i l c) r := ⟨h.foc.right, h.root, (perm_right i c l r).trans h.all, (plv_right i c l r).trans h.lv⟩
theorem rep_n {m : M} : ∀ {t : Tr} {u : Int}, Rep m u t → ∀ i ∈ t.lv, 1 ≤ (m i).n
  | .leaf i, u, h, k, hk => by obtain rfl := List.mem_singleton.1 hk; exact h.2
  | .node i l r, u, h, k, hk => by
    rcases List.mem_append.1 hk with hk | hk
    · exact rep_n h.2.2.2.2.1 k hk
    · exact rep_n h.2.2.2.2.2 k hk
theorem nd_hang {al F F2 ca : List Int} {a bo bs : Int} (hal : (bs :: ca).Perm al) (hnd : (al ++ F).Nodup) (ha : a ∉ al) (haF : a ∉ F) (hbo : bo ∉ al) (hba : bo ≠ a) (hF : F = F2 ++ [bo] ∨ F = [] ∧ F2 = []) : ((bo :: bs :: a :: ca) ++ F2).Nodup := by
  have p : ((bo :: bs :: a :: ca) ++ F2).Perm (bo :: a :: (al ++ F2)) := by
    refine List.Perm.cons bo ?_
    refine (List.Perm.swap a bs (ca ++ F2)).trans (List.Perm.cons a ?_)
    exact List.Perm.append_right F2 hal
  rw [p.nodup_iff]
  obtain ⟨n1, n2, n3⟩ := List.nodup_append.1 hnd
  rcases hF with rfl | ⟨rfl, rfl⟩
  · obtain ⟨m1, m2, m3⟩ := List.nodup_append.1 n2
    refine List.nodup_cons.2 ⟨fun h => ?_, List.nodup_cons.2 ⟨fun h => ?_, List.nodup_append.2 ⟨n1, m1, fun x hx y hy => n3 x hx y (List.mem_append_left _ hy)⟩⟩⟩
    · rcases List.mem_cons.1 h with h | h
      · exact hba h
      · rcases List.mem_append.1 h with h | h
        · exact hbo h
        · exact m3 bo h bo (List.mem_singleton.2 rfl) rfl
    · rcases List.mem_append.1 h with h | h
      · exact ha h
      · exact haF (List.mem_append_left _ h)
  · rw [List.append_nil]
    refine List.nodup_cons.2 ⟨fun h => ?_, List.nodup_cons.2 ⟨ha, n1⟩⟩
    rcases List.mem_cons.1 h with h | h
    · exact hba h
    · exact hbo h
/-- A fresh place is nowhere yet. -/
theorem fresh_out {al F F2 : List Int} {N N2 bo : Nat} (hnd : (al ++ F).Nodup) (hr : ∀ i ∈ al ++ F, 0 ≤ i ∧ i < N) (hF : F = F2 ++ [(bo : Int)] ∧ N2 = N ∨ F = [] ∧ F2 = [] ∧ bo = N ∧ N2 = N + 1) : (bo : Int) ∉ al ∧ (∀ a : Nat, a < N → (a : Int) ∉ F → (bo : Int) ≠ a) ∧ N ≤ N2 ∧ N2 ≤ N + 1 := by
  rcases hF with ⟨rfl, rfl⟩ | ⟨rfl, rfl, rfl, rfl⟩
  · obtain ⟨n1, n2, n3⟩ := List.nodup_append.1 hnd
    refine ⟨fun h => n3 _ h _ (List.mem_append_right _ (List.mem_singleton.2 rfl)) rfl, fun a _ h e => h (List.mem_append_right _ (by rw [e]; exact List.mem_singleton.2 rfl)), Nat.le_refl _, by omega⟩
  · refine ⟨fun h => ?_, fun a ha _ e => by omega, by omega, Nat.le_refl _⟩
    have := (hr _ (List.mem_append_left _ h)).2
    omega
set_option maxRecDepth 100000 in
set_option maxHeartbeats 4000000 in
theorem hangOn {T : Tn} {F al lv : List Int} {b c K a : Nat} {pl : Int → Option Int} {s0 : Tr} (w : World) (h : TS w T F al lv b c pl K) (hK : K < 90000) (hA0 : At T al lv .top s0) (ha : a < T.N) (haF : (a : Int) ∉ F) (haL : (a : Int) ∉ al) (hl : 1 ≤ (T.m a).n ∧ (T.m a).h = 0 ∧ holds (T.m a).fat (T.m a).b = true) :
    Calls Tryz.prog 35 #[.pointer (some ⟨T.p, 0, none⟩), .int .i64 (a : Int)] w fun e w' => e = .returned (.tuple #[]) ∧ ∃ T' F' al', TS w' T' F' al' ((a : Int) :: lv) b c pl (K + 2) ∧ Aft w w' T T' b ((a : Int) :: lv) := by
  have hT : TN w T := by
    rcases h.tx.to with ⟨h0, _⟩ | h
    · omega
    · exact h
  obtain ⟨t0, ht0⟩ : ∃ t0, s0.ix = t0 := ⟨_, rfl⟩
  have ht : T.top = t0 := hA0.root.trans ht0
  have ht1 : t0 ≠ -1 := by
    have := hA0.foc.ap.pos _ s0.ix_all
    omega
  have HT0 := Lib.hid ht0
  have W1 : Below w.heap.size w (w.alloc (.cells [.pointer (some ⟨T.p, 0, none⟩)].toArray 24)) := (Below.refl _ _).alloc (Nat.le_refl _) _
  have W2 : Below w.heap.size w ((w.alloc (.cells [.pointer (some ⟨T.p, 0, none⟩)].toArray 24)).alloc (.cells [.int .i64 (a : Int)].toArray 3)) := W1.alloc (by simp) _
  have B1 : Box ((w.alloc (.cells [.pointer (some ⟨T.p, 0, none⟩)].toArray 24)).alloc (.cells [.int .i64 (a : Int)].toArray 3)) w.heap.size [.pointer (some ⟨T.p, 0, none⟩)] 24 := (Box.new rfl).alloc _
  have B2 : Box ((w.alloc (.cells [.pointer (some ⟨T.p, 0, none⟩)].toArray 24)).alloc (.cells [.int .i64 (a : Int)].toArray 3)) (w.alloc (.cells [.pointer (some ⟨T.p, 0, none⟩)].toArray 24)).heap.size [.int .i64 (a : Int)] 3 := Box.new rfl
  have hX2 := h.tx.step W2
  have hT2 := hT.step W2
  have hgl : w.heap.size ≤ (w.alloc (.cells [.pointer (some ⟨T.p, 0, none⟩)].toArray 24)).heap.size := W1.size
  have HS := Lib.hid h; have HL := Lib.hid hl; have HA := Lib.hid hA0
  clear h hT hl hA0 ht0
  go_enter Tryz.func35, Tryz.ntmps35
  iterate 3 go_step
  refine wpL_go (v := .pointer (some ⟨w.heap.size, 0, none⟩)) (w' := w.alloc (.cells [.pointer (some ⟨T.p, 0, none⟩)].toArray 24)) (by kernel_rfl) (by go_simp) ?_
  conv => arg 5; simp only [Act.put, List.setIfInBounds_toArray, List.set_cons_zero, List.set_cons_succ]
  refine wpL_go (v := .pointer (some ⟨(w.alloc (.cells [.pointer (some ⟨T.p, 0, none⟩)].toArray 24)).heap.size, 0, none⟩)) (w' := (w.alloc (.cells [.pointer (some ⟨T.p, 0, none⟩)].toArray 24)).alloc (.cells [.int .i64 (a : Int)].toArray 3)) (by kernel_rfl) (by go_simp) ?_
  conv => arg 5; simp only [Act.put, List.setIfInBounds_toArray, List.set_cons_zero, List.set_cons_succ]
  refine wpList_nil ?_
  revert W2 B1 B2 hT2 hX2 hgl
  generalize (w.alloc (.cells [.pointer (some ⟨T.p, 0, none⟩)].toArray 24)).heap.size = gb
  generalize (w.alloc (.cells [.pointer (some ⟨T.p, 0, none⟩)].toArray 24)).alloc (.cells [.int .i64 (a : Int)].toArray 3) = w1
  obtain ⟨ga, hga⟩ : ∃ ga, w.heap.size = ga := ⟨_, rfl⟩
  intro W2 B1 B2 hX2 hT2 hgl
  rw [hga] at B1
  rw [hga]
  have HT := Lib.hid hT2; have HX := Lib.hid hX2; have HB1 := Lib.hid B1; have HB2 := Lib.hid B2; have HW := Lib.hid W2
  have c4 : w1.cell? ⟨T.p, 4, none⟩ = some (.int .i64 t0) := by have := (TO.topc (.inr hT2)); rw [ht] at this; exact this
  have c5 := B1.cell 0
  have c6 := B2.cell 0
  simp only [List.getElem?_cons_zero] at c5 c6
  have l4 := hT2.box.lt
  have l5 := B1.lt
  have l6 := B2.lt
  have u1 : (t0 == -1) = false := by simpa using ht1
  have HBX := Lib.hid (fun (u : World) (hf : Fr w1 u (own T b)) => (show Box u ga [.pointer (some ⟨T.p, 0, none⟩)] 24 ∧ Box u gb [.int .i64 (a : Int)] 3 from
    ⟨Box.block B1 (hf.block ga l5 fun h => by have := HS.out.tx.lt _ h; omega), Box.block B2 (hf.block gb l6 fun h => by have := HS.out.tx.lt _ h; omega)⟩))
  clear hT2 B1 B2 W1 W2 hX2
  go_wp2_with fail
  clear c4 c5 c6 l4 l5 l6 u1
  go_loopw [4] (fun i wr => (∃ n, PA T al lv i n) ∧ Below w1.heap.size w1 wr) (fun i wr => TrG.least (PA T al lv i))
  case atStart => exact ⟨⟨_, .top, s0, by rw [HT0.out], HA.out, rfl⟩, Below.refl _ _⟩
  case round =>
    obtain ⟨⟨n0, hp⟩, hS⟩ := hrel
    obtain ⟨cx, s, rfl, hA, hlen⟩ := hp.ex
    have HLEN := Lib.hid hlen
    clear hp hlen
    have hTr := HT.out.step hS
    have hB1 := HB1.out.step hS
    have hB2 := HB2.out.step hS
    have c2 := hTr.nodes
    have c5 := hB1.cell 0
    have c6 := hB2.cell 0
    simp only [List.getElem?_cons_zero] at c5 c6
    have l4 := hTr.box.lt
    have l5 := hB1.lt
    have l6 := hB2.lt
    have HTr := Lib.hid hTr; have HBr1 := Lib.hid hB1; have HBr2 := Lib.hid hB2; have HAr := Lib.hid hA; have HSr := Lib.hid hS
    clear hB1 hB2
    cases s with
    | leaf bs =>
      have hb0 := HS.out.rng bs (List.mem_append_left _ (hA.all.mem_iff.1 (List.mem_append_left _ (List.mem_singleton.2 rfl))))
      obtain ⟨bs, rfl⟩ : ∃ n : Nat, bs = n := ⟨bs.toNat, by omega⟩
      have hbN : bs < T.N := by omega
      have cn := hTr.cell hbN (j := 12) rfl
      have cu := hTr.cell hbN (j := 13) rfl
      have hu : (T.m bs).u = cx.up := hA.foc.rep.1
      rw [hu] at cu
      have un : ((T.m bs).n == 0) = false := by have : 1 ≤ (T.m bs).n := hA.foc.rep.2; simp only [beq_eq_false_iff_ne, ne_eq]; omega
      simp only [TrP.Tr.ix]
      clear hTr hA hS
      have hX := HX.out.step HSr.out
      go_wp2_with fail
      obtain ⟨x, hx⟩ : ∃ x : Nd, (⟨bzero, bzero, 0, cx.up, (bs : Int), (a : Int), 0⟩ : Nd) = x := ⟨_, rfl⟩
      have hFS := freshC (x := x) wr hX (fun k hk => HS.out.rng k (List.mem_append_right _ hk)) (by have := HS.out.n2; omega) (fun _ => by have := HS.out.n1; omega)
      rw [← hx] at hFS
      refine hFS.mono ?_
      clear hFS
      rw [hx]
      rintro e w2 ⟨bo, T2, F2, rfl, hF⟩
      have hpT := hF.p
      have fo := fresh_out HS.out.nd HS.out.rng hF.how
      have HAo := HAr.out
      have bsA : (bs : Int) ∈ al := HAo.all.mem_iff.1 (List.mem_append_left _ (List.mem_singleton.2 rfl))
      have cxA : ∀ k ∈ cx.all, k ∈ al := fun k hk => HAo.all.mem_iff.1 (List.mem_append_right _ hk)
      have cxR : cx.up = -1 ∨ 0 ≤ cx.up ∧ cx.up < T2.N := by
        rcases up_in (c := cx) with h | h
        · exact .inl h
        · have := HS.out.rng _ (List.mem_append_left _ (cxA _ h)); right; omega
      obtain ⟨m2, m4, ec, e4, hMI⟩ := hang_ok (m := T.m) (at_ := (a : Int)) (bo := (bo : Int)) (x := x) HAo.foc ⟨fun e => haL (by rw [e]; exact bsA), fun h => haL (cxA _ h), by omega⟩ ⟨fun e => fo.1 (by rw [e]; exact bsA), fo.2.1 a ha haF, fun h => fo.1 (cxA _ h), by omega⟩ (by rw [← hx]; exact ⟨rfl, rfl, rfl, rfl⟩) HL.out
      have hbo := hF.lt
      have M2 := hF.tn
      have F1 : Fr w1 w2 (own T b) := (Fr.of_below (S := own T b) HSr.out).trans hF.fr (fun j h => .inl h)
      have OW := Lib.hid (show ∀ j, own T2 b j → own T b j ∨ w1.heap.size ≤ j from fun j h => (hF.ow j h).imp id (fun h => by have := HSr.out.size; omega))
      have HFS := Lib.hid hF
      have HC := Lib.hid (show change T2.m T2.top cx.up (bs : Int) (bo : Int) = (m2, cx.root bo) by rw [hF.m, hF.top, HAo.root]; exact ec)
      have HM := Lib.hid hMI; have H4 := Lib.hid e4; have HFO := Lib.hid fo; have HCX := Lib.hid cxR; have HBS := Lib.hid bsA; have HCA := Lib.hid cxA
      have hMo2 := Mod.refl w2 T2.p T2.g
      clear c2 c5 c6 l4 l5 l6 cn cu un hX fo HAo bsA cxA cxR hMI e4 ec hx hF HTr HBr1 HBr2 HSr HX HT HB1 HB2 hb0 hu
      obtain ⟨c5, c6⟩ := HBX.out w2 F1
      have c5 := c5.cell 0
      have c6 := c6.cell 0
      simp only [List.getElem?_cons_zero] at c5 c6
      go_wp2_with fail
      have hCH := changeC (T := T2) (up := cx.up) (was := (bs : Int)) (now := (bo : Int)) w2 M2 HCX.out ⟨by omega, by omega⟩
      rw [HC.out] at hCH
      have hCH2 : Calls Tryz.prog 61 #[.pointer (some ⟨T.p, 0, none⟩), .int .i64 cx.up, .int .i64 (bs : Int), .int .i64 (bo : Int)] w2 fun e w' => e = .returned (.tuple #[]) ∧ TN w' { T2 with m := m2, top := cx.root bo } ∧ Mod w2 w' T2.p T2.g := by rw [← hpT]; exact hCH
      refine hCH2.mono ?_
      clear hCH hCH2
      rintro e w3 ⟨rfl, h3, m3⟩
      have F3 : Fr w1 w3 (own T b) := F1.trans (Fr.of_mod (S := own T2 b) m3 (.inl rfl) (.inr (.inl rfl))) OW.out
      clear c5 c6 M2 hMo2
      obtain ⟨hp2, hg2⟩ := TN.lt h3
      have hp2 : T.p < w3.heap.size := by rw [← hpT]; exact hp2
      have hg2 : T2.g < w3.heap.size := hg2
      have HFr := Lib.hid F3
      have H3 := Lib.hid h3
      have NE := Lib.hid (fun (u : World) (hS : Below w3.heap.size w3 u ∨ (TN u { T2 with m := st m2 bs ((m2 bs).setU bo), top := cx.root bo } ∧ Mod w3 u T2.p T2.g)) => (show u.cell? ⟨T.p, 2, none⟩ = some (.slice (some ⟨T2.g, 0, none⟩) T2.N T2.cap) ∧ u.cell? ⟨ga, 0, none⟩ = some (.pointer (some ⟨T.p, 0, none⟩)) ∧ u.cell? ⟨gb, 0, none⟩ = some (.int .i64 (a : Int)) from by
        have hc : u.cell? ⟨T.p, 2, none⟩ = some (.slice (some ⟨T2.g, 0, none⟩) T2.N T2.cap) := by
          rw [← hpT]
          rcases hS with h | h
          · exact (H3.out.step h).nodes
          · exact h.1.nodes
        have hf : Fr w1 u (own T b) := by
          rcases hS with h | h
          · exact HFr.out.trans (Fr.of_below (S := own T b) h) (fun j h => .inl h)
          · exact HFr.out.trans (Fr.of_mod (S := own T2 b) h.2 (.inl rfl) (.inr (.inl rfl))) OW.out
        obtain ⟨q5, q6⟩ := HBX.out u hf
        exact ⟨hc, by rw [q5.cell]; rfl, by rw [q6.cell]; rfl⟩))
      have bsN : bs < T2.N := by have := HFO.out; omega
      have aN : a < T2.N := by have := HFO.out; omega
      have bs0 : 0 ≤ (bs : Int) ∧ (bs : Int) < T2.N := by omega
      have a0 : 0 ≤ (a : Int) ∧ (a : Int) < T2.N := by omega
      clear h3 F3
      go_wp2_with fail
      refine wp_region_ph [(15, .free [])] (by kernel_rfl) (by kernel_rfl) ?_
      refine Ph.one 14 (fun u => Below w3.heap.size w3 u) (fun u => TN u { T2 with m := st m2 bs ((m2 bs).setU bo), top := cx.root bo } ∧ Mod w3 u T2.p T2.g) (by rfl) (Below.refl _ _).drew ?_
      simp only [List.drop_succ_cons, List.drop_zero, List.take_succ_cons, List.take_zero, Nat.reduceSub, Nat.sub_zero]
      iterate 14 (refine SeqO.val1 (v := ?_) (by rfl) (by rfl) (fun w1 hS => ?_) ?_; rotate_left; (· obtain ⟨c2, c5, c6⟩ := NE.out w1 hS; go_simp; try with_reducible rfl); simp only [Act.put, List.setIfInBounds_toArray, List.set_cons_zero, List.set_cons_succ])
      refine SeqO.one (v := undef) (by rfl) (by rfl) (fun u hR K hK => ?_) ?_
      · refine wp_nf (T := { T2 with m := m2, top := cx.root bo }) (k := bs) (j := 13) (x := .tmp 84) (y := .tmp 81) (n := (bo : Int)) (z := (m2 bs).setU bo) (by rfl) (by rfl) (by rfl) (H3.out.step hR) bsN (by decide) (by rfl) ?_
        exact fun w' h' m' => hK w' ⟨h', (Mod.of_below hR).trans m'⟩
      simp only [Act.put, List.setIfInBounds_toArray, List.set_cons_zero, List.set_cons_succ]
      refine SeqO.nil1 (by decide) fun w4 hR2 => ?_
      refine Ph.last ?_
      simp only [List.drop_succ_cons, List.drop_zero, List.take_succ_cons, List.take_zero, Nat.reduceSub, Nat.sub_zero]
      obtain ⟨h4, m4'⟩ := hR2
      have M4 := m3.trans m4'
      iterate 2 (with_reducible refine wpL_val (v := ?_) ?_ ?_ ?_; rotate_left; (· kernel_rfl); (· go_simp; try with_reducible rfl); conv => arg 5; simp only [Act.put, List.setIfInBounds_toArray, List.set_cons_zero, List.set_cons_succ])
      refine wpL_nf (T := { T2 with m := st m2 bs ((m2 bs).setU bo), top := cx.root bo }) (k := a) (j := 13) (x := .tmp 86) (y := .tmp 82) (n := (bo : Int)) (z := ((st m2 bs ((m2 bs).setU bo)) a).setU bo) (by rfl) (by rfl) (by rfl) (by rfl) h4 aN (by decide) (by rfl) ?_
      intro w5 h5 m5
      have M5 := M4.trans m5
      replace h5 : TN w5 { T2 with m := m4, top := cx.root bo } := by rw [← H4.out]; exact h5
      refine wpList_nil ?_
      have F5 : Fr w1 w5 (own T b) := (HFr.out.trans (Fr.of_mod (S := own T2 b) m4' (.inl rfl) (.inr (.inl rfl))) OW.out).trans (Fr.of_mod (S := own T2 b) m5 (.inl rfl) (.inr (.inl rfl))) OW.out
      obtain ⟨q5, q6⟩ := HBX.out w5 F5
      have c5 : w5.cell? ⟨ga, 0, none⟩ = some (.pointer (some ⟨T.p, 0, none⟩)) := by rw [q5.cell]; rfl
      clear q5 q6 h4 m4' M4 NE H3 HFr m5 hp2 hg2
      go_wp2_with fail
      have hIn : In ((bo : Int) :: (bs : Int) :: (a : Int) :: cx.all) T2.N := by
        have hN := HFO.out
        refine ⟨fun i hi => ?_, ?_⟩
        · rcases List.mem_cons.1 hi with e | hi
          · omega
          rcases List.mem_cons.1 hi with e | hi
          · omega
          rcases List.mem_cons.1 hi with e | hi
          · omega
          have := HS.out.rng i (List.mem_append_left _ (HCA.out i hi)); omega
        · have h1 := HAr.out.all.length_eq
          have h2 := HS.out.n3
          simp only [TrP.Tr.all, List.length_append, List.length_singleton, List.length_cons] at h1 ⊢
          omega
      have hMD := mendC (T := { T2 with m := m4, top := cx.root bo }) w5 h5 HM.out hIn
      have hMD2 : Calls Tryz.prog 62 #[.pointer (some ⟨T.p, 0, none⟩), .int .i64 (bo : Int)] w5 fun e w' => e = .returned (.tuple #[]) ∧ ∃ m t k, TN w' { T2 with m := m, top := t } ∧ MI (st T.m bo x) m t (-1) k ((bo : Int) :: (bs : Int) :: (a : Int) :: cx.all) ((bs : Int) :: (a : Int) :: cx.lv) ∧ Mod w5 w' T2.p T2.g := by rw [← hpT]; exact hMD
      refine hMD2.mono ?_
      clear hMD hMD2
      rintro e w6 ⟨rfl, m6, t6, k6, h6, hI6, M6⟩
      obtain ⟨hKt, T6, hW⟩ := hI6.end_
      have FIN := Lib.hid (show ∃ T' F' al', TS w6 T' F' al' ((a : Int) :: lv) b c pl (K + 2) ∧ Aft w w6 T T' b ((a : Int) :: lv) from by
        have hF := HFS.out
        have fo := HFO.out
        have hA := HAr.out
        have hx := hF.tx.moved (m := m6) (t := t6) h6 (M5.trans M6)
        refine ⟨{ T2 with m := m6, top := t6 }, F2, (bo : Int) :: (bs : Int) :: (a : Int) :: cx.all, ⟨hx, .inr ⟨T6, hW.rep, hW.fit, hW.bal, hW.top_is, hW.all, ?_⟩, ?_, ?_, ?_, ?_, ?_⟩, hF.p, hF.mg, ?_, ?_, ?_⟩
        · exact hW.lv.trans ((List.Perm.swap _ _ _).trans (List.Perm.cons _ hA.lv))
        · exact nd_hang hA.all HS.out.nd haL haF fo.1 (fo.2.1 a ha haF) (hF.how.imp (·.1) (fun h => ⟨h.1, h.2.1⟩))
        · intro i hi
          rcases List.mem_append.1 hi with hi | hi
          · exact hIn.mem i hi
          · have : i ∈ F := by
              rcases hF.how with h | h
              · rw [h.1]; exact List.mem_append_left _ hi
              · rw [h.2.1] at hi; cases hi
            have := HS.out.rng i (List.mem_append_right _ this)
            show 0 ≤ i ∧ i < (T2.N : Int); omega
        · have := HS.out.n1; show T2.N ≤ K + 2; omega
        · have := HS.out.n2
          rcases hF.how with h | h
          · rw [h.1, List.length_append] at this; simp at this; omega
          · rw [h.2.1]; simp
        · have h1 := hA.all.length_eq
          have h2 := HS.out.n3
          simp only [TrP.Tr.all, List.length_append, List.length_singleton, List.length_cons] at h1 ⊢
          omega
        · intro i hi
          have hb : i ≠ bo ∧ (T.m i).n ≠ 0 := by
            rcases List.mem_cons.1 hi with e | hi
            · subst e
              exact ⟨fun e => fo.2.1 a ha haF e.symm, by have := HL.out.1; omega⟩
            · have hs0 := HA.out
              have hl0 : i ∈ s0.lv := by
                have := hs0.lv.mem_iff.2 hi
                rcases List.mem_append.1 this with h | h
                · exact h
                · cases h
              have h1 := rep_n hs0.foc.rep i hl0
              refine ⟨fun e => fo.1 ?_, by omega⟩
              rw [← e]
              exact hs0.all.mem_iff.1 (List.mem_append_left _ (s0.lv_all i hl0))
          have := hKt.same i
          rw [st_ne hb.1] at this
          exact ⟨this.2.1, this.1, this.2.2 hb.2⟩
        · refine (Fr.trans (S' := own T b) (Fr.of_below (S := own T b) HW.out) (F5.trans (Fr.of_mod (S := own T2 b) M6 (.inl rfl) (.inr (.inl rfl))) OW.out) (fun j h => .inl h))
        · intro k hk
          have hk' : own T2 b k := hk
          rcases OW.out k hk' with h | h
          · exact .inl h
          · right; have := HW.out.size; omega)
      clear h6 M6 hI6 hKt hW hIn M5 h5 HM HC H4
      go_wp2_with fail
      go_end0
      exact ⟨rfl, FIN.out⟩
    | node j l r =>
      have hb0 := HS.out.rng j (List.mem_append_left _ (hA.all.mem_iff.1 (List.mem_append_left _ (List.mem_cons_self ..))))
      obtain ⟨j, rfl⟩ : ∃ n : Nat, j = n := ⟨j.toNat, by omega⟩
      have hbN : j < T.N := by omega
      have cn := hTr.cell hbN (j := 12) rfl
      have un : ((T.m j).n == 0) = true := by have : (T.m j).n = 0 := hA.foc.rep.2.1; simp [this]
      simp only [TrP.Tr.ix]
      have hat : At' wr T.g (j * 17) (ndv (T.m j)) := TN.at hTr hbN
      have lA := HS.out.rng l.ix (List.mem_append_left _ (hA.all.mem_iff.1 (List.mem_append_left _ (List.mem_cons_of_mem _ (List.mem_append_left _ l.ix_all)))))
      have rA := HS.out.rng r.ix (List.mem_append_left _ (hA.all.mem_iff.1 (List.mem_append_left _ (List.mem_cons_of_mem _ (List.mem_append_right _ r.ix_all)))))
      obtain ⟨lk, hlk⟩ : ∃ n : Nat, l.ix = n := ⟨l.ix.toNat, by omega⟩
      obtain ⟨rk, hrk⟩ : ∃ n : Nat, r.ix = n := ⟨r.ix.toNat, by omega⟩
      have hl1 : (T.m j).l = lk := by rw [← hlk]; exact hA.foc.rep.2.2.1
      have hr1 : (T.m j).r = rk := by rw [← hrk]; exact hA.foc.rep.2.2.2.1
      have lkN : lk < T.N := by omega
      have rkN : rk < T.N := by omega
      have BN : Box (wr.alloc (.cells (ndv (T.m j)).toArray 73)) wr.heap.size (ndv (T.m j)) 73 := Box.new rfl
      have hS2 : Below wr.heap.size wr (wr.alloc (.cells (ndv (T.m j)).toArray 73)) := (Below.refl _ _).alloc (Nat.le_refl _) _
      have c14 : (wr.alloc (.cells (ndv (T.m j)).toArray 73)).cell? ⟨wr.heap.size, 14, none⟩ = some (.int .i64 lk) := by rw [BN.cell, ← hl1]; rfl
      have l14 := BN.lt
      have FL := Lib.hid (fun (u : World) (hu : Below w1.heap.size w1 u) => (show ((∃ n, PA T al lv (.int .i64 (lk : Int)) n) ∧ Below w1.heap.size w1 u) ∧ TrG.least (PA T al lv (.int .i64 (lk : Int))) < TrG.least (PA T al lv (.int .i64 (j : Int))) from by
        rw [← hlk]
        refine ⟨⟨⟨_, _, l, rfl, hA.left, rfl⟩, hu⟩, Nat.lt_of_le_of_lt (PA.le hA.left) ?_⟩
        have := HLEN.out
        simp only [TrP.Tr.all, List.length_cons, List.length_append, TrP.Tr.ix] at this
        omega))
      have FR := Lib.hid (fun (u : World) (hu : Below w1.heap.size w1 u) => (show ((∃ n, PA T al lv (.int .i64 (rk : Int)) n) ∧ Below w1.heap.size w1 u) ∧ TrG.least (PA T al lv (.int .i64 (rk : Int))) < TrG.least (PA T al lv (.int .i64 (j : Int))) from by
        rw [← hrk]
        refine ⟨⟨⟨_, _, r, rfl, hA.right, rfl⟩, hu⟩, Nat.lt_of_le_of_lt (PA.le hA.right) ?_⟩
        have := HLEN.out
        simp only [TrP.Tr.all, List.length_cons, List.length_append, TrP.Tr.ix] at this
        omega))
      clear hTr hA hS lA rA hlk hrk HAr HLEN
      go_wp2_with (refine wpL_at (l := ndv (T.m j)) (by rfl) (by rfl) hat Tryz.underlying73 (by rfl) (szN _) (by kernel_rfl) ?_; (conv => arg 5; simp only [Act.put, List.setIfInBounds_toArray, List.set_cons_zero, List.set_cons_succ]); refine wpL_go (v := .pointer (some ⟨wr.heap.size, 0, none⟩)) (w' := wr.alloc (.cells [.int .i64 0, .int .i64 0, .int .i64 0, .int .i64 0, .int .i64 0, .int .i64 0, .int .i64 0, .int .i64 0, .int .i64 0, .int .i64 0, .int .i64 0, .int .i64 0, .int .i64 0, .int .i64 0, .int .i64 0, .int .i64 0, .int .i64 0].toArray 73)) (by kernel_rfl) (by go_simp) ?_; (conv => arg 5; simp only [Act.put, List.setIfInBounds_toArray, List.set_cons_zero, List.set_cons_succ]); refine wpL_store (cs := ndv (T.m j)) (by rfl) (by rfl) (by rfl) (Box.new rfl) (szN _) (by rfl) (nd_one _) (by kernel_rfl) ?_; (conv => arg 5; simp only [Act.put, List.setIfInBounds_toArray, List.set_cons_zero, List.set_cons_succ]); rw [alloc_setRow]; refine wpList_nil ?_)
      clear c14 l14 c2 c5 c6 l4 l5 l6 cn un hat
      have hT2 := HTr.out.step hS2
      have hB1 := HBr1.out.step hS2
      have hB2 := HBr2.out.step hS2
      have hSs := HSr.out.trans (hS2.mono HSr.out.size)
      obtain ⟨g0, hg0⟩ : ∃ g0, wr.heap.size = g0 := ⟨_, rfl⟩
      revert BN hT2 hB1 hB2 hSs
      rw [hg0]
      generalize wr.alloc (.cells (ndv (T.m j)).toArray 73) = w2
      intro BN hT2 hB1 hB2 hSs
      clear HTr HBr1 HBr2 HSr hg0 hS2
      have HT2 := Lib.hid hT2; have HC1 := Lib.hid hB1; have HC2 := Lib.hid hB2; have HN := Lib.hid BN; have HSs := Lib.hid hSs
      have c14 : w2.cell? ⟨g0, 14, none⟩ = some (.int .i64 lk) := by rw [BN.cell, ← hl1]; rfl
      have c15 : w2.cell? ⟨g0, 15, none⟩ = some (.int .i64 rk) := by rw [BN.cell, ← hr1]; rfl
      have l14 := BN.lt
      clear hT2 hB1 hB2 BN hSs
      refine wp_region_ph [(9, .free [])] (by kernel_rfl) (by kernel_rfl) ?_
      refine Ph.belowd ?_
      simp only [List.drop_succ_cons, List.drop_zero, List.take_succ_cons, List.take_zero, Nat.reduceSub, Nat.sub_zero]
      iterate 3 (refine SeqO.val (v := ?_) (by rfl) (by rfl) (fun w1 hS => ?_) ?_; rotate_left; (· obtain ⟨hc, hcf⟩ := bcell hS; go_simp; try with_reducible rfl); simp only [Act.put, List.setIfInBounds_toArray, List.set_cons_zero, List.set_cons_succ])
      refine SeqO.callv (by rfl) (by rfl) (by rfl) cf58 (by simp [Act.eval]) (fun w1 hS => moreC w1 (HT2.out.step hS) rkN ha (HC1.out.step hS) (HC2.out.step hS)) ?_
      simp only [Act.put, List.setIfInBounds_toArray, List.set_cons_zero, List.set_cons_succ]
      iterate 3 (refine SeqO.val (v := ?_) (by rfl) (by rfl) (fun w1 hS => ?_) ?_; rotate_left; (· obtain ⟨hc, hcf⟩ := bcell hS; go_simp; try with_reducible rfl); simp only [Act.put, List.setIfInBounds_toArray, List.set_cons_zero, List.set_cons_succ])
      refine SeqO.callv (by rfl) (by rfl) (by rfl) cf58 (by simp [Act.eval]) (fun w1 hS => moreC w1 (HT2.out.step hS) lkN ha (HC1.out.step hS) (HC2.out.step hS)) ?_
      simp only [Act.put, List.setIfInBounds_toArray, List.set_cons_zero, List.set_cons_succ]
      iterate 1 (refine SeqO.val (v := ?_) (by rfl) (by rfl) (fun w1 hS => ?_) ?_; rotate_left; (· obtain ⟨hc, hcf⟩ := bcell hS; go_simp; try with_reducible rfl); simp only [Act.put, List.setIfInBounds_toArray, List.set_cons_zero, List.set_cons_succ])
      refine SeqO.nil0 fun w3 hS3 => ?_
      refine Ph.last ?_
      simp only [List.drop_succ_cons, List.drop_zero, List.take_succ_cons, List.take_zero, Nat.reduceSub, Nat.sub_zero]
      have B3 := HN.out.step hS3
      have hS4 := HSs.out.trans (hS3.mono HSs.out.size)
      clear c14 c15 l14 HN HSs HT2 HC1 HC2
      have c15 : w3.cell? ⟨g0, 15, none⟩ = some (.int .i64 rk) := by rw [B3.cell, ← hr1]; rfl
      have l14 := B3.lt
      clear B3
      go_wp2_with fail
      · exact FR.out _ hS4
      · exact FL.out _ hS4
/-- A leaf hung, whatever hangs already. -/
theorem hangC {T : Tn} {F al lv : List Int} {b c K a : Nat} {pl : Int → Option Int} (w : World) (h : TS w T F al lv b c pl K) (hK : K < 90000) (ha : a < T.N) (haF : (a : Int) ∉ F) (haL : (a : Int) ∉ al) (hl : (T.m a).u = -1 ∧ 1 ≤ (T.m a).n ∧ (T.m a).h = 0 ∧ holds (T.m a).fat (T.m a).b = true) :
    Calls Tryz.prog 35 #[.pointer (some ⟨T.p, 0, none⟩), .int .i64 (a : Int)] w fun e w' => e = .returned (.tuple #[]) ∧ ∃ T' F' al', TS w' T' F' al' ((a : Int) :: lv) b c pl (K + 2) ∧ Aft w w' T T' b ((a : Int) :: lv) := by
  rcases h.sh with ⟨h1, rfl, rfl⟩ | ⟨s, h1, h2, h3, h4, h5, h6⟩
  · exact hangTop w h h1 ha haF hl
  · have nd : s.all.Nodup := h5.nodup_iff.2 (List.nodup_append.1 h.nd).1
    have ps : ∀ i ∈ s.all, 0 ≤ i := fun i hi => (h.rng i (List.mem_append_left _ (h5.mem_iff.1 hi))).1
    exact hangOn (s0 := s) w h hK ⟨Foc.start h1 h2 h3 nd ps, h4, by simpa [Cx.all] using h5, by simpa [Cx.lv] using h6⟩ ha haF haL hl.2
end THg
end Go.Proofs.YtbcjnckejkjfeaaGreat
namespace Go.Proofs.YtbcjnckejkjfeaaGreat
set_option linter.unusedVariables false
set_option linter.unusedSimpArgs false
open Go.RowKit Go.NP
namespace TCt
open TrP TrW TrC TrA TrF TrG TrX TrY TrK THg QVl
/-- A place appended to the free ones. -/
theorem TX.push {w w' : World} {T : Tn} {F : List Int} {b c : Nat} {pl : Int → Option Int} {v' : Value} {x : Int} (h : TX w T F b c pl) (hT : TN w T) (hv : OwnV w' 0 3 v' (iv F ++ [.int .i64 x])) (hg : w.grownBy w' T.fr.ownBlock) (ho : v'.ownBlock = T.fr.ownBlock ∨ v'.ownBlock = some w.heap.size) :
    TX (w'.setCell ⟨T.p, 3, none⟩ v') { T with fr := v' } (F ++ [x]) b c pl ∧ TN (w'.setCell ⟨T.p, 3, none⟩ v') { T with fr := v' } ∧ Fr w (w'.setCell ⟨T.p, 3, none⟩ v') (own T b) ∧ ∀ k, own { T with fr := v' } b k → own T b k ∨ w.heap.size ≤ k := by
  have hl := TN.lt hT
  have hp : w'.heap[T.p]? = w.heap[T.p]? := hg.block _ hl.1 fun e => (h.fp _ e.symm).1 rfl
  have hgg : w'.heap[T.g]? = w.heap[T.g]? := hg.block _ hl.2 fun e => (h.fp _ e.symm).2.1 rfl
  have hb : w'.heap[b]? = w.heap[b]? := hg.block _ h.vm.lt fun e => (h.fp _ e.symm).2.2 rfl
  have hN : TN w' T := by
    obtain ⟨L, q1, q2, q3⟩ := hT.row
    exact ⟨Box.block hT.box hp, ⟨L, Box.block q1 hgg, q2, q3⟩, hT.cap, hT.ne, hT.small⟩
  have hN2 := TN.setFr hN v'
  have hfp : ∀ k, v'.ownBlock = some k → k ≠ T.p ∧ k ≠ T.g ∧ k ≠ b := fun k hk => by
    rcases ho with e | e
    · exact h.fp k (by rw [← e]; exact hk)
    · rw [e] at hk
      cases hk
      exact ⟨by omega, by omega, by have := h.vm.lt; omega⟩
  have hiv : iv (F ++ [x]) = iv F ++ [.int .i64 x] := by simp [iv]
  refine ⟨⟨.inr hN2, ?_, h.mp, (h.vm.block hb).block (heap_setCell _ _ _ _ fun e => h.bp e), h.bp, h.bg, hfp, h.cl⟩, hN2, ?_, fun k hk => ?_⟩
  · rw [hiv]
    exact hv.block fun k hk _ => heap_setCell _ _ _ _ fun e => (hfp k hk).1 e
  · refine Fr.trans (S' := fun k => k = T.p) ⟨hg.os, hg.tape, hg.output, hg.size, fun k hk hn => hg.block k hk fun e => hn (.inr (.inr (.inl e.symm)))⟩ ⟨rfl, rfl, rfl, by simp [World.setCell], fun k _ hn => heap_setCell _ _ _ _ hn⟩ fun j hj => .inl (.inl hj)
  · rcases hk with hk | hk | hk | hk
    · exact .inl (.inl hk)
    · exact .inl (.inr (.inl hk))
    · rcases ho with e | e
      · exact .inl (.inr (.inr (.inl (by rw [← e]; exact hk))))
      · right
        have hk' : v'.ownBlock = some k := hk
        rw [e] at hk'; cases hk'; exact Nat.le_refl _
    · exact .inl (.inr (.inr (.inr hk)))
theorem own_one {w : World} {base : Nat} {Ty : TypeId} {v : Value} {l : List Value} (h : OwnV w base Ty v l) : v.cells = #[v] ∧ v.oneCell' = true := by
  obtain ⟨A, cap, e, _⟩ := h.sl
  rw [e]; exact ⟨rfl, rfl⟩
/-- What a cut leaves. -/
structure Cut (w w' : World) (T : Tn) (b c K a : Nat) (pl : Int → Option Int) (lv : List Int) (T' : Tn) (F' al' lv' : List Int) : Prop where
  ts : TS w' T' F' al' lv' b c pl (K + 2)
  af : Aft w w' T T' b lv
  lv : ((a : Int) :: lv').Perm lv
  out : (a : Int) ∉ al' ++ F'
  lt : a < T'.N
  at_ : T'.m a = T.m a
set_option maxRecDepth 100000 in
set_option maxHeartbeats 4000000 in
theorem cutTop {T : Tn} {F al : List Int} {b c K a : Nat} {pl : Int → Option Int} (w : World) {m0 : M} (h : TSm w T m0 F al [(a : Int)] b c pl K) (hal : [(a : Int)].Perm al) (hu : (T.m a).u = -1) (haN : a < T.N) :
    Calls Tryz.prog 40 #[.pointer (some ⟨T.p, 0, none⟩), .int .i64 (a : Int)] w fun e w' => e = .returned (.tuple #[]) ∧ ∃ T' F' al' lv', Cut w w' T b c K a pl [(a : Int)] T' F' al' lv' := by
  have hT : TN w T := by
    rcases h.tx.to with ⟨h0, _⟩ | h
    · omega
    · exact h
  have c2 := hT.nodes
  have cu := hT.cell haN (j := 13) rfl
  rw [hu] at cu
  obtain ⟨lp, lg⟩ := TN.lt hT
  have a0 : 0 ≤ (a : Int) ∧ (a : Int) < T.N := by omega
  have u1 : ((-1 : Int) == -1) = true := by decide
  have HS := Lib.hid h; have HT := Lib.hid hT; have HAL := Lib.hid hal
  clear h hT hal hu
  go_enter Tryz.func40, Tryz.ntmps40
  go_wp2_with (refine wpL_tf (T := T) (x := .tmp 19) (y := .const (.int .i64 (-1))) (n := -1) (by rfl) (by rfl) (by rfl) (by rfl) HT.out ?_; intro w2 h2 m2)
  simp only [Act.put]
  refine bodyPost_ret (v := .tuple #[]) (by simp [results, Tryz.results40, go_sem]) rfl ?_
  have hx2 := HS.out.tx.moved (m := T.m) (t := -1) h2 m2
  have haF : (a : Int) ∉ F := fun hm => (List.nodup_append.1 HS.out.nd).2.2 _ (HAL.out.mem_iff.1 (List.mem_singleton.2 rfl)) _ hm rfl
  refine ⟨rfl, { T with top := -1 }, F, [], [], ⟨hx2, .inl ⟨rfl, rfl, rfl⟩, (List.nodup_append.1 HS.out.nd).2.1, fun i hi => HS.out.rng i (List.mem_append_right _ hi), ?_, ?_, Nat.zero_le _⟩, ⟨rfl, rfl, fun i hi => ⟨rfl, rfl, rfl⟩, Fr.of_mod (S := own T b) m2 (.inl rfl) (.inr (.inl rfl)), fun k hk => .inl hk⟩, List.Perm.refl _, haF, haN, rfl⟩
  · have := HS.out.n1; show T.N ≤ K + 2; omega
  · have := HS.out.n2; omega
set_option maxRecDepth 100000 in
set_option maxHeartbeats 4000000 in
theorem cutOn {T : Tn} {F al lv : List Int} {b c K a i : Nat} {pl : Int → Option Int} {cx' : Cx} {s : Tr} (w : World) {m0 : M} (h : TSm w T m0 F al lv b c pl K) (hK : K < 90000) (haN : a < T.N) (hiN : i < T.N) (hu : (T.m a).u = i) (hiu : (T.m i).u = cx'.up) (hsum : (T.m i).l + (T.m i).r - a = s.ix)
    (hlr : (0 ≤ (T.m i).l ∧ (T.m i).l < 1000000) ∧ 0 ≤ (T.m i).r ∧ (T.m i).r < 1000000) (htop : T.top = cx'.root i) (hall : ((a : Int) :: (i : Int) :: (s.all ++ cx'.all)).Perm al) (hlv : ((a : Int) :: (s.lv ++ cx'.lv)).Perm lv)
    (hcut : ∃ m2, change T.m (cx'.root i) cx'.up i s.ix = (m2, cx'.root s.ix) ∧ MI T.m m2 (cx'.root s.ix) cx'.up cx'.len (s.all ++ cx'.all) (s.lv ++ cx'.lv)) (hn : ∀ k ∈ lv, (T.m k).n ≠ 0) :
    Calls Tryz.prog 40 #[.pointer (some ⟨T.p, 0, none⟩), .int .i64 (a : Int)] w fun e w' => e = .returned (.tuple #[]) ∧ ∃ T' F' al' lv', Cut w w' T b c K a pl lv T' F' al' lv' := by
  have hT : TN w T := by
    rcases h.tx.to with ⟨h0, _⟩ | h
    · omega
    · exact h
  have sR := h.rng s.ix (List.mem_append_left _ (hall.mem_iff.1 (List.mem_cons_of_mem _ (List.mem_cons_of_mem _ (List.mem_append_left _ s.ix_all)))))
  have cxR : cx'.up = -1 ∨ 0 ≤ cx'.up ∧ cx'.up < T.N := by
    rcases up_in (c := cx') with h' | h'
    · exact .inl h'
    · exact .inr (h.rng _ (List.mem_append_left _ (hall.mem_iff.1 (List.mem_cons_of_mem _ (List.mem_cons_of_mem _ (List.mem_append_right _ h'))))))
  obtain ⟨m2, ec, hMI⟩ := hcut
  obtain ⟨sk, hsk⟩ : ∃ n : Nat, s.ix = n := ⟨s.ix.toNat, by omega⟩
  rw [hsk] at ec hMI hsum sR
  obtain ⟨lk, hlk⟩ : ∃ l, (T.m i).l = l := ⟨_, rfl⟩
  obtain ⟨rk, hrk⟩ : ∃ r, (T.m i).r = r := ⟨_, rfl⟩
  rw [hlk, hrk] at hlr
  rw [hlk, hrk] at hsum
  obtain ⟨up, hup⟩ : ∃ u, cx'.up = u := ⟨_, rfl⟩
  rw [hup] at hiu ec hMI cxR
  have c2 := hT.nodes
  have cu := hT.cell haN (j := 13) rfl
  rw [hu] at cu
  obtain ⟨lp, lg⟩ := TN.lt hT
  have a0 : 0 ≤ (a : Int) ∧ (a : Int) < T.N := by omega
  have i0 : 0 ≤ (i : Int) ∧ (i : Int) < T.N := by omega
  have u1 : ((i : Int) == -1) = false := by simp only [beq_eq_false_iff_ne, ne_eq]; omega
  have v1 : IntKind.i64.wrap (lk + rk) = lk + rk := by rw [IntKind.wrap_i64]; omega
  have v2 : IntKind.i64.wrap (lk + rk - a) = (sk : Int) := by rw [IntKind.wrap_i64]; omega
  have hat : At' w T.g (i * 17) (ndv (T.m i)) := TN.at hT hiN
  have BN : Box (w.alloc (.cells (ndv (T.m i)).toArray 73)) w.heap.size (ndv (T.m i)) 73 := Box.new rfl
  have hS2 : Below w.heap.size w (w.alloc (.cells (ndv (T.m i)).toArray 73)) := (Below.refl _ _).alloc (Nat.le_refl _) _
  have c14 : (w.alloc (.cells (ndv (T.m i)).toArray 73)).cell? ⟨w.heap.size, 14, none⟩ = some (.int .i64 lk) := by rw [BN.cell, ← hlk]; rfl
  have c15 : (w.alloc (.cells (ndv (T.m i)).toArray 73)).cell? ⟨w.heap.size, 15, none⟩ = some (.int .i64 rk) := by rw [BN.cell, ← hrk]; rfl
  have c13 : (w.alloc (.cells (ndv (T.m i)).toArray 73)).cell? ⟨w.heap.size, 13, none⟩ = some (.int .i64 up) := by rw [BN.cell, ← hiu]; rfl
  have l14 := BN.lt
  have HS := Lib.hid h; have HT := Lib.hid hT; have HAL := Lib.hid hall; have HLV := Lib.hid hlv; have HM := Lib.hid hMI; have HC := Lib.hid ec; have HN := Lib.hid hn; have HCX := Lib.hid cxR; have HTP := Lib.hid htop
  clear h hT hall hlv hu hMI ec hn cxR htop
  go_enter Tryz.func40, Tryz.ntmps40
  go_wp2_with (refine wpL_at (l := ndv (T.m i)) (by rfl) (by rfl) hat Tryz.underlying73 (by rfl) (szN _) (by kernel_rfl) ?_; (conv => arg 5; simp only [Act.put, List.setIfInBounds_toArray, List.set_cons_zero, List.set_cons_succ]); refine wpL_go (v := .pointer (some ⟨w.heap.size, 0, none⟩)) (w' := w.alloc (.cells [.int .i64 0, .int .i64 0, .int .i64 0, .int .i64 0, .int .i64 0, .int .i64 0, .int .i64 0, .int .i64 0, .int .i64 0, .int .i64 0, .int .i64 0, .int .i64 0, .int .i64 0, .int .i64 0, .int .i64 0, .int .i64 0, .int .i64 0].toArray 73)) (by kernel_rfl) (by go_simp) ?_; (conv => arg 5; simp only [Act.put, List.setIfInBounds_toArray, List.set_cons_zero, List.set_cons_succ]); refine wpL_store (cs := ndv (T.m i)) (by rfl) (by rfl) (by rfl) (Box.new rfl) (szN _) (by rfl) (nd_one _) (by kernel_rfl) ?_; (conv => arg 5; simp only [Act.put, List.setIfInBounds_toArray, List.set_cons_zero, List.set_cons_succ]); rw [alloc_setRow]; refine wpList_nil ?_)
  have hT1 := HT.out.step hS2
  have hX1 := HS.out.tx.step hS2
  have hF1 := Fr.of_below (S := own T b) hS2
  obtain ⟨gx, hgx⟩ : ∃ g, w.heap.size = g := ⟨_, rfl⟩
  revert BN hT1 hX1 hF1
  rw [hgx]
  generalize w.alloc (.cells (ndv (T.m i)).toArray 73) = w1
  intro BN hT1 hX1 hF1
  clear hS2 c14 c15 c13 l14 hat c2 cu lp lg
  have hCH := changeC (T := T) (up := up) (was := (i : Int)) (now := (sk : Int)) w1 hT1 HCX.out ⟨by omega, by omega⟩
  rw [HTP.out, HC.out] at hCH
  refine hCH.mono ?_
  clear hCH
  rintro e w2 ⟨rfl, h2, m2'⟩
  have hX2 := hX1.moved (m := m2) (t := cx'.root sk) h2 m2'
  have gxT : gx ≠ T.p ∧ gx ≠ T.g := by have := TN.lt HT.out; omega
  have gxF : T.fr.ownBlock ≠ some gx := fun e => by have := HS.out.tx.lt _ (.inr (.inr (.inl e))); omega
  have B2 : Box w2 gx (ndv (T.m i)) 73 := (m2'.block gx BN.lt gxT.1 gxT.2).trans BN
  have F2 : Fr w w2 (own T b) := hF1.trans (Fr.of_mod (S := own T b) m2' (.inl rfl) (.inr (.inl rfl))) (fun j h => .inl h)
  have hWa : Below w2.heap.size w2 (w2.alloc (.cells [.int .i64 (i : Int)].toArray 3)) := (Below.refl _ _).alloc (Nat.le_refl _) _
  have hXa := hX2.step hWa
  have hTa := h2.step hWa
  have B2a := B2.step hWa
  have hF2a := F2.trans (Fr.of_below (S := own T b) hWa) (fun j h => .inl h)
  have hOa : OwnV (w2.alloc (.cells [.int .i64 (i : Int)].toArray 3)) 0 3 T.fr (iv F) := hXa.fr
  have hXc : (w2.alloc (.cells [.int .i64 (i : Int)].toArray 3)).cell? ⟨w2.heap.size, 0, none⟩ = some (.int .i64 (i : Int)) := by rw [(Box.new rfl : Box _ w2.heap.size [.int .i64 (i : Int)] 3).cell]; rfl
  have hlen : (iv F).length ≤ 1000000 := by have := HS.out.n2; rw [iv_len]; omega
  have c3 : w2.cell? ⟨T.p, 3, none⟩ = some T.fr := TO.fr (T := { T with m := m2, top := cx'.root sk }) (.inr h2)
  have l3 : T.p < w2.heap.size := (TN.lt (T := { T with m := m2, top := cx'.root sk }) h2).1
  have H2 := Lib.hid h2
  have HXa := Lib.hid hXa; have HTa := Lib.hid hTa; have HBa := Lib.hid B2a; have HFa := Lib.hid hF2a
  clear h2 hX2 hX1 hT1 BN B2 hXa hTa B2a hF2a hWa m2' F2 hF1
  have C37 := Lib.hid (fun (v7 : Value) (w7 : World) (hG : World.grownBy (w2.alloc (.cells [.int .i64 (i : Int)].toArray 3)) w7 T.fr.ownBlock) => (show w7.cell? ⟨T.p, 3, none⟩ = some T.fr ∧ w7.frozen? ⟨T.p, 3, none⟩ = false ∧ T.p < w7.heap.size from by
    have hp := hG.block _ (TN.lt HTa.out).1 fun e => (HXa.out.fp _ e.symm).1 rfl
    have hb := Box.block HTa.out.box hp
    exact ⟨by rw [hb.cell]; rfl, hb.free 3, hb.lt⟩))
  have PU := Lib.hid (fun (v7 : Value) (w7 : World) (hO : OwnV w7 0 3 v7 (iv F ++ [.int .i64 (i : Int)])) (hG : World.grownBy (w2.alloc (.cells [.int .i64 (i : Int)].toArray 3)) w7 T.fr.ownBlock) (hL : v7.ownBlock = T.fr.ownBlock ∨ v7.ownBlock = some (w2.alloc (.cells [.int .i64 (i : Int)].toArray 3)).heap.size) => TX.push HXa.out HTa.out hO hG hL)
  have C13 := Lib.hid (fun (v7 : Value) (w7 : World) (hG : World.grownBy (w2.alloc (.cells [.int .i64 (i : Int)].toArray 3)) w7 T.fr.ownBlock) => (show (w7.setCell ⟨T.p, 3, none⟩ v7).cell? ⟨gx, 13, none⟩ = some (.int .i64 up) from by
    have hp : w7.heap[gx]? = (w2.alloc (.cells [.int .i64 (i : Int)].toArray 3)).heap[gx]? := hG.block _ HBa.out.lt fun e => gxF e.symm
    have hb : Box (w7.setCell ⟨T.p, 3, none⟩ v7) gx (ndv (T.m i)) 73 := Box.block (Box.block HBa.out hp) (heap_setCell _ _ _ _ gxT.1)
    rw [hb.cell, ← hiu]; rfl))
  have hsize := (Nat.le_refl (w2.alloc (.cells [.int .i64 (i : Int)].toArray 3)).heap.size)
  go_wp2_with (first | (at_builtin; refine wpV_app Tryz.underlying50 infoI (by rfl) (by decide) (by rfl) (.tmp 44) (.tmp 46) (by rfl) (by rfl) hOa (by rfl) hXc (by rfl) hlen (Nat.zero_le _) ?_; intro v7 w7 hO7 hG7 hL7 hB7; have s7 := own_one hO7; obtain ⟨c37, f37, l37⟩ := C37.out v7 w7 hG7; have P7 := Lib.hid (PU.out _ w7 hO7 hG7 hL7); have d13 := C13.out v7 w7 hG7; clear hO7 hG7 hL7 hB7) | (refine wpL_sc (x := .tmp 49) (y := .tmp 47) (b := T.p) (off := 3) (v := v7) (by rfl) (by rfl) (by rfl) (by rfl) s7.1 s7.2 szIs (by rw [c37]; rfl) f37 ?_))
  revert d13 P7
  generalize w7.setCell ⟨T.p, 3, none⟩ v7 = w8
  intro P7 d13
  obtain ⟨q1, q2, q3, q4⟩ := P7.out
  have ND : ((a : Int) :: ((s.all ++ cx'.all) ++ (F ++ [(i : Int)]))).Nodup := by
    have p1 : (al ++ F).Perm ((a : Int) :: ((s.all ++ cx'.all) ++ (F ++ [(i : Int)]))) := by
      refine (List.Perm.append_right F HAL.out.symm).trans (List.Perm.cons _ ?_)
      rw [← List.append_assoc (s.all ++ cx'.all)]
      exact (List.perm_append_comm (l₁ := (s.all ++ cx'.all) ++ F) (l₂ := [(i : Int)])).symm
    exact p1.nodup_iff.1 HS.out.nd
  have hIn : In (s.all ++ cx'.all) T.N := by
    refine ⟨fun k hk => HS.out.rng k (List.mem_append_left _ (HAL.out.mem_iff.1 (List.mem_cons_of_mem _ (List.mem_cons_of_mem _ hk)))), ?_⟩
    have h1 := HAL.out.length_eq
    have h2 := HS.out.n3
    simp only [List.length_cons] at h1
    omega
  have hMD := mendC (T := { T with m := m2, top := cx'.root sk, fr := v7 }) w8 q2 HM.out hIn
  refine hMD.mono ?_
  clear hMD
  rintro e w9 ⟨rfl, m9, t9, k9, h9, hI9, M9⟩
  obtain ⟨hKt, T9, hW⟩ := hI9.end_
  have FIN := Lib.hid (show ∃ T' F' al' lv', Cut w w9 T b c K a pl lv T' F' al' lv' from by
    have nd := List.nodup_cons.1 ND
    have hx := q1.moved (m := m9) (t := t9) h9 M9
    have hF8 : Fr w w8 (own T b) := HFa.out.trans q3 (fun j h => .inl h)
    have hO8 : ∀ k, own { T with fr := v7 } b k → own T b k ∨ w.heap.size ≤ k := fun k hk => (q4 k hk).imp id (fun h => by have := HFa.out.size; omega)
    refine ⟨{ T with m := m9, top := t9, fr := v7 }, F ++ [(i : Int)], s.all ++ cx'.all, s.lv ++ cx'.lv, ⟨hx, .inr ⟨T9, hW.rep, hW.fit, hW.bal, hW.top_is, hW.all, hW.lv⟩, nd.2, fun k hk => ?_, ?_, ?_, ?_⟩, ⟨rfl, rfl, fun k hk => ?_, hF8.trans (Fr.of_mod (S := own { T with fr := v7 } b) M9 (.inl rfl) (.inr (.inl rfl))) hO8, hO8⟩, HLV.out, nd.1, haN, ?_⟩
    · show 0 ≤ k ∧ k < (T.N : Int)
      rcases List.mem_append.1 hk with hk | hk
      · exact hIn.mem k hk
      · rcases List.mem_append.1 hk with hk | hk
        · exact HS.out.rng k (List.mem_append_right _ hk)
        · rw [List.mem_singleton.1 hk]; exact i0
    · have := HS.out.n1; show T.N ≤ K + 2; omega
    · have := HS.out.n2; rw [List.length_append, List.length_singleton]; omega
    · have h1 := HAL.out.length_eq
      have h2 := HS.out.n3
      simp only [List.length_cons] at h1
      omega
    · have := hKt.same k
      exact ⟨this.2.1, this.1, this.2.2 (HN.out k hk)⟩
    · exact hKt.out a fun hm => nd.1 (List.mem_append_left _ hm))
  clear P7 q1 q2 q3 q4 ND hIn h9 hI9 M9 hKt hW HM HC d13
  go_wp2_with fail
  go_end0
  exact ⟨rfl, FIN.out⟩
/-- A leaf taken off, wherever it hangs: its bound may have been turned. -/
theorem cutM {T : Tn} {m0 : M} {F al lv : List Int} {b c K a : Nat} {pl : Int → Option Int} (w : World) (h : TSm w T m0 F al lv b c pl K) (hK : K < 90000) (ha : (a : Int) ∈ lv) (hm : ∀ k, k ≠ (a : Int) → T.m k = m0 k) (hma : (T.m a).u = (m0 a).u ∧ (T.m a).n = (m0 a).n) :
    Calls Tryz.prog 40 #[.pointer (some ⟨T.p, 0, none⟩), .int .i64 (a : Int)] w fun e w' => e = .returned (.tuple #[]) ∧ ∃ T' F' al' lv', Cut w w' T b c K a pl lv T' F' al' lv' := by
  rcases h.sh with ⟨h1, rfl, rfl⟩ | ⟨s, h1, h2, h3, h4, h5, h6⟩
  · cases ha
  · have nd : s.all.Nodup := h5.nodup_iff.2 (List.nodup_append.1 h.nd).1
    have ps : ∀ i ∈ s.all, 0 ≤ i := fun i hi => (h.rng i (List.mem_append_left _ (h5.mem_iff.1 hi))).1
    have has : (a : Int) ∈ s.lv := h6.mem_iff.2 ha
    have haN : a < T.N := by have := (h.rng _ (List.mem_append_left _ (h5.mem_iff.1 (s.lv_all _ has)))).2; omega
    have hn : ∀ k ∈ lv, (T.m k).n ≠ 0 := fun k hk => by
      have := rep_n h1 k (h6.mem_iff.2 hk)
      by_cases e : k = a
      · rw [e] at this ⊢; rw [hma.2]; omega
      · rw [hm k e]; omega
    obtain ⟨cx, hf, hr, p1, p2⟩ := (Foc.start h1 h2 h3 nd ps).find has
    have p1 : ((a : Int) :: cx.all).Perm al := p1.trans (by simpa [Cx.all] using h5)
    have p2 : ((a : Int) :: cx.lv).Perm lv := p2.trans (by simpa [Cx.lv] using h6)
    rcases hf.above with rfl | ⟨cx', q, i, e1, e2, e3, e4, e5, e6, e7, e8, e9, e10, ⟨H, e11, e12, e13⟩, e14, e15, e16, e17, e18⟩
    · have hlv : lv = [(a : Int)] := by
        have q : lv.Perm [(a : Int)] := p2.symm
        exact List.perm_singleton.1 q
      subst hlv
      exact cutTop w h p1 (hma.1.trans hf.rep.1) haN
    · have iA : i ∈ al := p1.mem_iff.1 (List.mem_cons_of_mem _ (e15.mem_iff.2 (List.mem_cons_self ..)))
      have iR := h.rng i (List.mem_append_left _ iA)
      obtain ⟨i, rfl⟩ : ∃ n : Nat, i = n := ⟨i.toNat, by omega⟩
      have hall : ((a : Int) :: (i : Int) :: (q.all ++ cx'.all)).Perm al := (List.Perm.cons _ e15.symm).trans p1
      have ndA := hall.nodup_iff.2 (List.nodup_append.1 h.nd).1
      have na := (List.nodup_cons.1 ndA).1
      have hia : (i : Int) ≠ a := fun e => na (by rw [← e]; exact List.mem_cons_self ..)
      have hqa : ∀ k ∈ q.all, T.m k = m0 k := fun k hk => hm k fun e => na (by rw [← e]; exact List.mem_cons_of_mem _ (List.mem_append_left _ hk))
      have hca : ∀ k ∈ cx'.all, T.m k = m0 k := fun k hk => hm k fun e => na (by rw [← e]; exact List.mem_cons_of_mem _ (List.mem_append_right _ hk))
      have hmi := hm i hia
      have qR := h.rng q.ix (List.mem_append_left _ (hall.mem_iff.1 (List.mem_cons_of_mem _ (List.mem_cons_of_mem _ (List.mem_append_left _ q.ix_all)))))
      have hN := h.n1
      have hc := cut_ok (Rep.frame hqa e4) (RepC.frame hca e5) (Fit.keep e6 hqa) (FitC.keep e7 hca) e8 e9 e10 e11 e12 e13
      have hlr : (0 ≤ (m0 i).l ∧ (m0 i).l < 1000000) ∧ 0 ≤ (m0 i).r ∧ (m0 i).r < 1000000 := by
        have hrc := hf.repc
        cases cx with
        | top => simp only [Cx.up] at e2; omega
        | inl j c2 r2 =>
          have e2' : j = i := e2
          subst e2'
          have a1 := hrc.2.2.1; have a2 := hrc.2.2.2.1
          simp only [Tr.ix] at a1
          omega
        | inr j l2 c2 =>
          have e2' : j = i := e2
          subst e2'
          have a1 := hrc.2.2.1; have a2 := hrc.2.2.2.1
          simp only [Tr.ix] at a2
          omega
      exact cutOn w h hK haN (by omega) (by rw [hma.1, hf.rep.1, e2]) (by rw [hmi]; exact e3) (by rw [hmi]; exact e1) (by rw [hmi]; exact hlr) (by rw [h4, ← e14]; exact hr.symm) hall (by rw [e16] at p2; exact p2) hc hn
/-- .. as it is. -/
theorem cutC {T : Tn} {F al lv : List Int} {b c K a : Nat} {pl : Int → Option Int} (w : World) (h : TS w T F al lv b c pl K) (hK : K < 90000) (ha : (a : Int) ∈ lv) :
    Calls Tryz.prog 40 #[.pointer (some ⟨T.p, 0, none⟩), .int .i64 (a : Int)] w fun e w' => e = .returned (.tuple #[]) ∧ ∃ T' F' al' lv', Cut w w' T b c K a pl lv T' F' al' lv' := cutM w h hK ha (fun _ _ => rfl) ⟨rfl, rfl⟩
end TCt
end Go.Proofs.YtbcjnckejkjfeaaGreat
namespace Go.Proofs.YtbcjnckejkjfeaaGreat
set_option linter.unusedVariables false
set_option linter.unusedSimpArgs false
open Go.RowKit Go.NP Go.Maps
namespace TMp
open QVm
def delV (m : Int → Option Value) (n : Int) : Int → Option Value := fun k => if k = n then none else m k
theorem kl_ne {k n : Int} (e : k ≠ n) : kl k ≠ kl n := fun h => e (by injection h)
section
variable {w : World} {b c : Nat} {m : Int → Option Value} {n : Int} {T E : TypeId} {ops : Array Oper} {r : List Oper} {o : Oper} {a : Act} {Q : Exit → Act → World → Prop}
theorem VM.delD {D : DataW Value} (h2 : ∀ k, wfI k → Maps.has D (kl k) = (m k).isSome ∧ ∀ v, m k = some v → ∀ z, D.atKey (kl k) z = .held v) : ∀ k, wfI k → Maps.has (D.del (kl n)) (kl k) = (delV m n k).isSome ∧ ∀ v, delV m n k = some v → ∀ z, (D.del (kl n)).atKey (kl k) z = .held v := fun k hk => by
  unfold delV
  by_cases e : k = n
  · subst e
    rw [if_pos rfl]
    exact ⟨Maps.has_del_same, fun v hv => by cases hv⟩
  · rw [if_neg e]
    refine ⟨by rw [Maps.has_del_other (kl_ne e)]; exact (h2 k hk).1, fun v hv z => ?_⟩
    rw [Maps.atKey_del_other (kl_ne e)]
    exact (h2 k hk).2 v hv z
theorem wpL_del (hgd : o.guard = none) (mo x : Operand) (ho : o.op = Op.call { callee := Callee.builtin Builtin.delete, args := #[mo, x], argTypes := #[T, 3] }) (hm : a.eval mo = .map (some b)) (hx : a.eval x = .int .i64 n) (h : VM w b m c) (hn : wfI n) (hT : Tryz.prog.underlying T = some (.map 3 E))
    (hK : ∀ w', VM w' b (delV m n) c → w.mapTurned w' b → wpList Tryz.prog ops Q r (a.put o.dst (.tuple #[])) w') : wpList Tryz.prog ops Q (o :: r) a w := by
  obtain ⟨D, h1, h2⟩ := h
  exact wpList_delete_own w hgd mo x T 3 ho E kyd hT RV b c D hm h1 _ (kl n) hx (keyK hn) fun w' r1 r2 => hK w' ⟨_, r1, VM.delD h2⟩ r2
theorem VM.size (h : VM w b m c) {L : List Int} (hL : L.Pairwise (· < ·)) (hm : ∀ x, x ∈ L ↔ wfI x ∧ (m x).isSome = true) : ∃ D : DataW Value, w.ownsMap Tryz.prog 3 RV b c D ∧ Maps.size D = L.length := by
  obtain ⟨D, h1, h2⟩ := h.keys hL hm
  refine ⟨D, h1, ?_⟩
  obtain ⟨es, rfl⟩ := h1.isMap
  have := (h2 _ (List.Perm.refl _)).2
  rw [← this]
  show es.length = (es.map _).length
  rw [List.length_map]
theorem wpL_mlen (hgd : o.guard = none) (mo : Operand) (ho : o.op = Op.call { callee := Callee.builtin Builtin.len, args := #[mo], argTypes := #[T] }) (hmo : a.eval mo = .map (some b)) (h : VM w b m c) (hT : Tryz.prog.underlying T = some (.map 3 E)) {L : List Int} (hL : L.Pairwise (· < ·)) (hm : ∀ x, x ∈ L ↔ wfI x ∧ (m x).isSome = true)
    (hK : wpList Tryz.prog ops Q r (a.put o.dst (.int .i64 (L.length : Nat))) w) : wpList Tryz.prog ops Q (o :: r) a w := by
  obtain ⟨D, h1, h2⟩ := VM.size h hL hm
  exact wpList_len_own w hgd mo T ho 3 E hT RV b c D hmo h1 (by rw [h2]; exact hK)
/-- What is told of the map that is ranged over. -/
def Fits (D : DataW Value) (m : Int → Option Value) : Prop := ∀ k, wfI k → Maps.has D (kl k) = (m k).isSome ∧ ∀ v, m k = some v → ∀ z, D.atKey (kl k) z = .held v
theorem wpL_range (hgd : o.guard = none) (mo : Operand) (ho : o.op = Op.range T mo) (hmo : a.eval mo = .map (some b)) (h : VM w b m c) (hT : Tryz.prog.underlying T = some (.map 3 E))
    (hK : ∀ w' (D : DataW Value), Fits D m → w'.ranges Tryz.prog 3 RV b w.heap.size c D (Maps.has D) (Maps.size D) → w.grownBy w' none → w'.heap.size = w.heap.size + 1 → wpList Tryz.prog ops Q r (a.put o.dst (.pointer (some ⟨w.heap.size, 0, none⟩))) w') : wpList Tryz.prog ops Q (o :: r) a w := by
  obtain ⟨D, h1, h2⟩ := h
  exact wpList_range_own w hgd mo T ho 3 E kyd hT RV b c D hmo h1 fun w' r1 r2 r3 => hK w' D h2 r1 r2 r3
theorem wpL_next {D : DataW Value} {left : Lit → Bool} {cnt rr : Nat} (hgd : o.guard = none) (it : Operand) (ho : o.op = Op.next it false) (hit : a.eval it = .pointer (some ⟨rr, 0, none⟩)) (hD : Fits D m) (h : w.ranges Tryz.prog 3 RV b rr c D left cnt)
    (hDone : cnt = 0 → (∀ k, left k = false) → wpList Tryz.prog ops Q r (a.put o.dst (.tuple #[.bool false])) w)
    (hMore : ∀ (x : Int) (v : Value) (w' : World) (cnt' : Nat), wfI x → left (kl x) = true → m x = some v → w'.ranges Tryz.prog 3 RV b rr c D (fun z => left z && !z.sameKey (kl x)) cnt' → cnt' < cnt → w.grownBy w' (some rr) → w'.heap.size = w.heap.size →
      (Instr.entry (.pointer (some ⟨rr, 0, none⟩))).run Tryz.prog w' = .ok (.tuple #[.int .i64 x, v]) w' → wpList Tryz.prog ops Q r (a.put o.dst (.tuple #[.bool true, .int .i64 x, v])) w') : wpList Tryz.prog ops Q (o :: r) a w := by
  refine wpList_next_ranges w hgd it ho 3 kyd RV (Value.int .i64) (fun v : Value => v) (fun key kl hk => by obtain ⟨x, hx, _⟩ := Maps.keyOf_i64 Tryz.underlying3 hk; exact ⟨x, hx⟩) (fun v y hv => ⟨v, rfl⟩) b rr c D left cnt hit h hDone ?_
  intro x v kl' y w' cnt' hk hl hv hat hr hlt hg hs he
  obtain ⟨x', ex, rfl, hw⟩ := Maps.keyOf_i64 Tryz.underlying3 hk
  have ex' : x = x' := by injection ex
  subst ex'
  have hy : y = (.held v, []) := by simpa [RV] using hv.symm
  subst hy
  refine hMore x v w' cnt' hw hl ?_ hr hlt hg hs he
  obtain ⟨q1, q2⟩ := hD x hw
  cases hm : m x with
  | some u =>
    have a1 := q2 u hm (.held undef)
    have a2 : D.atKey (kl x) (.held undef) = .held v := hat _
    rw [a1] at a2
    have a2 := DataW.held.inj a2
    rw [a2]
  | none =>
    rw [hm] at q1
    have a1 := Maps.atKey_of_not_has q1 (.held (Value.bool true))
    have a2 := Maps.atKey_of_not_has q1 (.held (Value.bool false))
    have b1 : D.atKey (kl x) (.held (Value.bool true)) = .held v := hat _
    have b2 : D.atKey (kl x) (.held (Value.bool false)) = .held v := hat _
    rw [a1] at b1
    rw [a2] at b2
    have b1 := DataW.held.inj b1
    have b2 := DataW.held.inj b2
    rw [← b1] at b2
    cases b2
end
end TMp
end Go.Proofs.YtbcjnckejkjfeaaGreat
