/- Another node hung in the place of one: the walk. Condition: the nodes are there. -/
import Derived.Test.YtbcjnckejkjfeaaTrW
import Derived.Deep.MidRow
namespace Go.Proofs.Ytbcjnckejkjfeaa
set_option linter.unusedVariables false
set_option linter.unusedSimpArgs false
open Go.RowKit Go.NP
namespace TrC
open TrP TrW
section
variable {ops : Array Oper} {r : List Oper} {o : Oper} {a : Act} {Q : Exit → Act → World → Prop} {w : World} {ty : TypeId} {x y : Operand} {b off : Nat} {v : Value}
theorem run_sc (hv : v.cells = #[v]) (h1 : v.oneCell' = true) (hsz : (Try.prog.info? ty).map (·.size) = some 1) (hc : (w.cell? ⟨b, off, none⟩).isSome = true) (hf : w.frozen? ⟨b, off, none⟩ = false) :
    (storeVar ty ⟨b, off, none⟩ v).run Try.prog w = .ok () (w.setCell ⟨b, off, none⟩ v) := by
  have := run_storeCells_cells (P := Try.prog) b off [v] 0 w (fun j hj => by obtain rfl : j = 0 := by simpa using hj
                                                                             simpa using hc) (fun j hj => by obtain rfl : j = 0 := by simpa using hj
                                                                                                             simpa using hf) (fun u hu => by obtain rfl := List.mem_singleton.1 hu; exact h1)
  cases hq : Try.prog.info? ty with
  | none => simp [hq] at hsz
  | some i =>
    have hs : i.size = 1 := by simpa [hq] using hsz
    simp only [Nat.add_zero] at this
    simp [storeVar, sizeOf, typeInfo, hq, hv, hs, this]
    rfl
theorem wpL_sc (hgd : o.guard = none) (ho : o.op = .store ty x y) (hx : a.eval x = .pointer (some ⟨b, off, none⟩)) (hy : a.eval y = v) (hv : v.cells = #[v]) (h1 : v.oneCell' = true) (hsz : (Try.prog.info? ty).map (·.size) = some 1) (hc : (w.cell? ⟨b, off, none⟩).isSome = true) (hf : w.frozen? ⟨b, off, none⟩ = false)
    (h : wpList Try.prog ops Q r (a.put o.dst undef) (w.setCell ⟨b, off, none⟩ v)) : wpList Try.prog ops Q (o :: r) a w :=
  wpList_plain hgd fun _ hK => by
    unfold Oper.wp execOp
    simp only [ho, hx, hy, Instr.storeAt, Instr.sureAddr, Sem.run_bind, Sem.run_pure, Result.andThen_ok, run_sc hv h1 hsz hc hf]
    exact hK _ _ h
theorem szI : (Try.prog.info? 3).map (·.size) = some 1 := by kernel_rfl
/-- A number stored into a node's field. -/
theorem wpL_nf {T : Tn} {k j : Nat} {n : Int} {z : Nd} (hgd : o.guard = none) (ho : o.op = .store 3 x y) (hx : a.eval x = .pointer (some ⟨T.g, k * 17 + j, none⟩)) (hy : a.eval y = .int .i64 n) (hT : TN w T) (hk : k < T.N) (hj : j < 17) (hz : ndv z = (ndv (T.m k)).set j (.int .i64 n))
    (h : ∀ w', TN w' { T with m := st T.m k z } → Mod w w' T.p T.g → wpList Try.prog ops Q r (a.put o.dst undef) w') : wpList Try.prog ops Q (o :: r) a w := by
  refine wpL_sc hgd ho hx hy rfl rfl szI ?_ (hT.free _) (h _ (hT.put hk hj hz) ((Mod.refl _ _ _).cell (.inr rfl) _))
  obtain ⟨v, hv⟩ : ∃ v, (ndv (T.m k))[j]? = some v := ⟨_, List.getElem?_eq_getElem (by rw [ndv_len]; exact hj)⟩
  rw [hT.cell hk hv]; rfl
theorem wpL_tf {T : Tn} {n : Int} (hgd : o.guard = none) (ho : o.op = .store 3 x y) (hx : a.eval x = .pointer (some ⟨T.p, 4, none⟩)) (hy : a.eval y = .int .i64 n) (hT : TN w T)
    (h : ∀ w', TN w' { T with top := n } → Mod w w' T.p T.g → wpList Try.prog ops Q r (a.put o.dst undef) w') : wpList Try.prog ops Q (o :: r) a w := by
  refine wpL_sc hgd ho hx hy rfl rfl szI ?_ (hT.box.free _) (h _ (hT.top n) ((Mod.refl _ _ _).cell (.inl rfl) _))
  rw [hT.box.cell]; rfl
end
set_option maxRecDepth 100000 in
set_option maxHeartbeats 2000000 in
theorem changeC {T : Tn} {up was now : Int} (w : World) (h : TN w T) (hu : up = -1 ∨ 0 ≤ up ∧ up < T.N) (hn : 0 ≤ now ∧ now < T.N) :
    Calls Try.prog 50 #[.pointer (some ⟨T.p, 0, none⟩), .int .i64 up, .int .i64 was, .int .i64 now] w fun e w' => e = .returned (.tuple #[]) ∧ TN w' { T with m := (change T.m T.top up was now).1, top := (change T.m T.top up was now).2 } ∧ Mod w w' T.p T.g := by
  obtain ⟨k, rfl⟩ : ∃ k : Nat, now = k := ⟨now.toNat, by omega⟩
  have hk : k < T.N := by omega
  have k1 : ((k : Int) != -1) = true := by simp only [bne_iff_ne, ne_eq]; omega
  have kn : (k : Int) ≠ -1 := by omega
  have k0 : 0 ≤ (k : Int) ∧ (k : Int) < T.N := hn
  rcases hu with rfl | hu
  · rw [change_top kn]
    have HT := Lib.hid h
    have u1 : ((-1 : Int) == -1) = true := by decide
    go_enter Try.func50, Try.ntmps50
    have c2 := h.nodes
    go_wp2_with (first | (refine wpL_tf (T := T) (x := .tmp 22) (y := .tmp 20) (n := (k : Int)) (by rfl) (by rfl) (by rfl) (by rfl) HT.out ?_; intro w2 h2 m2; have c3 := h2.nodes) | (refine wpL_nf (T := { T with top := (k : Int) }) (k := k) (j := 13) (x := .tmp 51) (y := .tmp 49) (n := -1) (z := (T.m k).setU (-1)) (by rfl) (by rfl) (by rfl) (by rfl) h2 hk (by decide) (by rfl) ?_; intro w3 h3 m3))
    go_end0
    exact ⟨rfl, h3, m2.trans m3⟩
  · obtain ⟨u, rfl⟩ : ∃ u : Nat, up = u := ⟨up.toNat, by omega⟩
    have hu' : u < T.N := by omega
    have u1 : ((u : Int) == -1) = false := by simp only [beq_eq_false_iff_ne, ne_eq]; omega
    have u0 : 0 ≤ (u : Int) ∧ (u : Int) < T.N := hu
    have un : (u : Int) ≠ -1 := by omega
    have HT := Lib.hid h
    have c2 := h.nodes
    have cu := h.fl hu'
    clear h
    by_cases e : (T.m u).l = was
    · rw [change_l un e kn]
      have e1 : ((T.m u).l == was) = true := by simpa using e
      clear e
      go_enter Try.func50, Try.ntmps50
      go_wp2_with (first | (refine wpL_nf (T := T) (k := u) (j := 14) (x := .tmp 41) (y := .tmp 39) (n := (k : Int)) (z := (T.m u).setL k) (by rfl) (by rfl) (by rfl) (by rfl) HT.out hu' (by decide) (by rfl) ?_; intro w2 h2 m2; have c3 := h2.nodes) | (refine wpL_nf (T := { T with m := st T.m u ((T.m u).setL k) }) (k := k) (j := 13) (x := .tmp 51) (y := .tmp 49) (n := (u : Int)) (z := (st T.m u ((T.m u).setL k) k).setU u) (by rfl) (by rfl) (by rfl) (by rfl) h2 hk (by decide) (by rfl) ?_; intro w3 h3 m3))
      go_end0
      exact ⟨rfl, h3, m2.trans m3⟩
    · rw [change_r un e kn]
      have e1 : ((T.m u).l == was) = false := by simpa using e
      clear e
      go_enter Try.func50, Try.ntmps50
      go_wp2_with (first | (refine wpL_nf (T := T) (k := u) (j := 15) (x := .tmp 15) (y := .tmp 13) (n := (k : Int)) (z := (T.m u).setR k) (by rfl) (by rfl) (by rfl) (by rfl) HT.out hu' (by decide) (by rfl) ?_; intro w2 h2 m2; have c3 := h2.nodes) | (refine wpL_nf (T := { T with m := st T.m u ((T.m u).setR k) }) (k := k) (j := 13) (x := .tmp 51) (y := .tmp 49) (n := (u : Int)) (z := (st T.m u ((T.m u).setR k) k).setU u) (by rfl) (by rfl) (by rfl) (by rfl) h2 hk (by decide) (by rfl) ?_; intro w3 h3 m3))
      go_end0
      exact ⟨rfl, h3, m2.trans m3⟩
end TrC
end Go.Proofs.Ytbcjnckejkjfeaa
