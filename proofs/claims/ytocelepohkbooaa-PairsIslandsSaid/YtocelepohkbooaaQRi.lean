/- The document's Islands: the walk. Condition: at most 1000 pairs, 1000 numbers. -/
import Derived.Test.YtocelepohkbooaaQRp
import Derived.Test.YtocelepohkbooaaQId
import Derived.Test.YtocelepohkbooaaQIc
namespace Go.Proofs.Ytocelepohkbooaa
set_option linter.unusedVariables false
set_option linter.unusedSimpArgs false
open Go.RowKit Go.NP
namespace QRi
open QVl QIn QWt QWp QIp QIl QCk QIs QIc QId QRp
section
variable {ops : Array Oper} {r : List Oper} {o : Oper} {a : Act} {Q : Exit → Act → World → Prop} {w : World} {base g : Nat} {v t : Value} {l : List Value} {S T : TypeId} {z : Value} {by_ : Nat}
theorem wpV_allK {A : Option Addr} {n cap : Nat} {m : List Value} (hu : Try.prog.underlying S = some (.slice T)) (hi : (Try.prog.info? T).map (fun i => (i.zero, i.size, i.bytes)) = some (some z, 1, by_)) (hzs : z.cells.size = 1) (hby : by_ ≤ 24) (hgd : o.guard = none) (s x : Operand)
    (ho : o.op = .call { callee := .builtin .append, args := #[s, x], argTypes := #[S, S] }) (hs : a.eval s = v) (hown : OwnV w base T v l) (hx : a.eval x = .slice A n cap) (hm : SlV w A n m) (hnc : A = none → cap = 0) (h1 : ∀ t ∈ m, t.oneCell' = true) (hl : l.length ≤ 1000000) (hn : n ≤ 1000000) (hb : base ≤ w.heap.size)
    (h : ∀ v' w', OwnV w' base T v' (l ++ m) → w.grownBy w' v.ownBlock → (v'.ownBlock = v.ownBlock ∨ v'.ownBlock = some w.heap.size) → (∀ w0, Below base w0 w → Below base w0 w') → wpList Try.prog ops Q r (a.put o.dst v') w') : wpList Try.prog ops Q (o :: r) a w := by
  obtain ⟨i0, hi0, hz0, hz1, hz2⟩ := info_parts hi
  have hml := hm.1
  cases A with
  | some ad =>
    refine wpList_append_own_at _ hgd s x S ho base T i0 z 1 by_ hu hi0 hz0 hz1 hz2 hzs (by decide) v l.length l hs hown ad n cap m hx (by omega) (fun j u hj => ?_) h1 (by unfold maxLen; omega) ?_ hb ?_
    · have hj0 := get_lt hj
      obtain ⟨b, off, e, hb, h2⟩ := hm.2 (by omega)
      cases e
      have hadd : (⟨b, off, none⟩ : Addr).add j = ⟨b, off + j, none⟩ := by unfold Addr.add; split <;> simp_all
      rw [hadd]; exact h2 j u hj
    · have := Nat.mul_le_mul_left (l.length + n) hby; omega
    · intro v' w' h1 h2 _ h4
      refine h v' w' ?_ h2 h4 fun w0 hB => hB.grown h2 hb fun k hk => (hown.lt k hk).1
      unfold OwnV
      rw [List.length_append, hml]
      exact h1
  | none =>
    have hc := hnc rfl
    have h0 : m = [] := by
      rcases Nat.eq_zero_or_pos n with h0 | h0
      · exact List.eq_nil_of_length_eq_zero (by omega)
      · obtain ⟨_, _, e, _⟩ := hm.2 h0; cases e
    subst h0
    have hn0 : n = 0 := hml.symm
    subst hc; subst hn0
    refine wpList_append_own_none hgd s x S ho base T i0 1 hu hi0 v l.length l hs hown hx ?_
    exact h v w (by rw [List.append_nil]; exact hown) (World.grownBy.refl _ _) (.inl rfl) (fun w0 hB => hB)
end
/-- Rows of other types are other rows. -/
theorem apart_type {w : World} {B1 B2 : Nat} {u v : Value} {l1 l2 : List Value} (h1 : OwnV w B1 3 u l1) (h2 : OwnV w B2 32 v l2) : ∀ g, u.ownBlock = some g → v.ownBlock ≠ some g := fun g hg hv => by
  rcases h1.2 with ⟨rfl, _⟩ | ⟨k1, _, cur1, rfl, _, e1, _⟩
  · simp [Value.ownBlock] at hg
  · rcases h2.2 with ⟨rfl, _⟩ | ⟨k2, _, cur2, rfl, _, e2, _⟩
    · simp [Value.ownBlock] at hv
    · obtain rfl : k1 = g := by simpa [Value.ownBlock] using hg
      obtain rfl : k2 = k1 := by simpa [Value.ownBlock] using hv
      rw [e1] at e2
      simp at e2
/-- The rows of the islands that are done. -/
structure Rows (w : World) (B : Nat) (ov dv : Value) (L : List (List Int)) (dn : List Int) : Prop where
  ex : ∃ vs, OwnV w B 32 ov vs ∧ vs.length = L.length ∧ (∀ (i : Nat) (u : Value) (g : List Int), vs[i]? = some u → L[i]? = some g → OwnV w B 3 u (g.map (.int .i64)) ∧ ∀ k, u.ownBlock = some k → dv.ownBlock ≠ some k)
  dn : OwnV w B 3 dv (dn.map (.int .i64))
theorem Rows.step {w w' : World} {B : Nat} {ov dv : Value} {L : List (List Int)} {dn : List Int} (h : Rows w B ov dv L dn) (hS : Below w.heap.size w w') : Rows w' B ov dv L dn := by
  obtain ⟨⟨vs, h1, h2, h3⟩, h4⟩ := h
  exact ⟨⟨vs, h1.step hS, h2, fun i u g hu hg => ⟨(h3 i u g hu hg).1.step hS, (h3 i u g hu hg).2⟩⟩, h4.step hS⟩
theorem own_slv {w : World} {B : Nat} {T : TypeId} {A : Option Addr} {n c : Nat} {l : List Value} (h : OwnV w B T (.slice A n c) l) : SlV w A n l := by
  obtain ⟨A', c', e, hs, _⟩ := h.sl
  cases e; exact hs
theorem outS_len (fx : List Int) (l : List Pr) (k : Nat) : (outS fx l k).length ≤ k := by
  unfold outS
  rw [List.length_map]
  exact Nat.le_trans (List.length_filter_le _ _) (by rw [List.length_take]; omega)
/-- One island more. -/
theorem Rows.add {w2 w3 w4 w7 w8 : World} {B : Nat} {ov dv v ov' dv' : Value} {L : List (List Int)} {dn g : List Int} {vs : List Value} (h1 : OwnV w3 B 32 ov vs) (h2 : vs.length = L.length) (h3 : ∀ (i : Nat) (u : Value) (g : List Int), vs[i]? = some u → L[i]? = some g → OwnV w3 B 3 u (g.map (.int .i64)) ∧ ∀ k, u.ownBlock = some k → dv.ownBlock ≠ some k) (h4 : OwnV w3 B 3 dv (dn.map (.int .i64))) (hb2 : ∀ k, dv.ownBlock = some k → k < w2.heap.size) (hBw : B ≤ w2.heap.size)
    (hv : OwnV w3 w2.heap.size 3 v (g.map (.int .i64))) (h34 : Below w3.heap.size w3 w4)
    (o7 : OwnV w7 B 32 ov' (vs ++ [v])) (h47 : w4.grownBy w7 ov.ownBlock) (hd : OwnV w8 B 3 dv' (dn.map (.int .i64) ++ g.map (.int .i64))) (h78 : w7.grownBy w8 dv.ownBlock) (hl : dv'.ownBlock = dv.ownBlock ∨ dv'.ownBlock = some w7.heap.size) : Rows w8 B ov' dv' (L ++ [g]) (dn ++ g) := by
  have o4 := h1.step h34
  have d4 := h4.step h34
  have d7 : OwnV w7 B 3 dv (dn.map (.int .i64)) := d4.block fun k hk hkl => h47.block k hkl fun e => apart_type d4 o4 k hk e.symm
  have toW8 : ∀ (u : Value) (B' : Nat) (gg : List Int), OwnV w3 B' 3 u (gg.map (.int .i64)) → (∀ k, u.ownBlock = some k → dv.ownBlock ≠ some k) → OwnV w8 B' 3 u (gg.map (.int .i64)) ∧ ∀ k, u.ownBlock = some k → dv'.ownBlock ≠ some k := fun u B' gg hu hne => by
    have u4 := hu.step h34
    have u7 : OwnV w7 B' 3 u (gg.map (.int .i64)) := u4.block fun k hk hkl => h47.block k hkl fun e => apart_type u4 o4 k hk e.symm
    refine ⟨u7.block fun k hk hkl => h78.block k hkl fun e => hne k hk e.symm, fun k hk e => ?_⟩
    rcases hl with hl | hl
    · exact hne k hk (by rw [← hl]; exact e)
    · rw [hl] at e
      have e := Option.some.inj e
      have := (u7.lt k hk).2
      omega
  refine ⟨⟨vs ++ [v], o7.block fun k hk hkl => h78.block k hkl fun e => apart_type d7 o7 k e.symm hk, by simp [h2], fun i u gg hu hg => ?_⟩, by rw [List.map_append]; exact hd⟩
  rcases Nat.lt_or_ge i vs.length with hi | hi
  · rw [List.getElem?_append_left hi] at hu
    rw [List.getElem?_append_left (by omega)] at hg
    obtain ⟨e1, e2⟩ := h3 i u gg hu hg
    exact toW8 u B gg e1 e2
  · rw [List.getElem?_append_right hi] at hu
    rw [List.getElem?_append_right (by omega)] at hg
    have hi0 := get_lt hu
    simp only [List.length_singleton] at hi0
    have e0 : i - vs.length = 0 := by omega
    rw [e0] at hu
    rw [show i - L.length = 0 by omega] at hg
    cases hu; cases hg
    obtain ⟨e1, e2⟩ := toW8 v w2.heap.size g hv fun k hk e => by
      have h5 := hb2 k e
      have h6 := (hv.lt k hk).1
      omega
    exact ⟨e1.mono hBw, e2⟩
theorem put1C {fx : List Int} {l : List Int} (h : rise l) (hm : ∀ x ∈ l, 1 ≤ x ∧ x ≤ 4096) : l.length ≤ 5000 := by have := short h hm; omega
set_option maxRecDepth 100000 in
set_option maxHeartbeats 8000000 in
theorem risOk {A B : Option Addr} {n m : Nat} (c d : Nat) {l : List Pr} {fx : List Int} (w : World) (h : SlS w A n l) (hx : SlV w B m (fx.map (.int .i64))) (hn : n ≤ 1000) (hm : m ≤ 1000) (hf : fineS l = 0) :
    RetI 17 #[.slice A n c, .slice B m d] w (islS fx l) 0 := by
  have hln := h.1
  have hok := (fineS_ok hf).2
  have AO := Lib.hid (fun k hk => allS_ok (fx := fx) (l := l) k hk)
  have AI := Lib.hid (allS_is (fx := fx) hok)
  have OK := Lib.hid hok
  have H := Lib.hid h; have HX := Lib.hid hx; have LN := Lib.hid hln; have HF := Lib.hid hf
  have RG := Lib.hid (fun (k : Nat) (x : Int) (hk : k ≤ l.length) (h : x ∈ allS fx (l.take k)) => (show 1 ≤ x ∧ x ≤ 4096 from key_rng (fx := fx) (l := l.take k) (fun p hp => hok p (List.mem_of_mem_take hp)) (((allS_ok (fx := fx) (l := l) k hk).2 x).1 h)))
  clear h hx hf hok
  go_enter Try.func17, Try.ntmps17
  go_wp2_with fail
  refine (rfineC c w H.out).mono ?_
  rintro e w1 ⟨rfl, hS1⟩
  rw [HF.out]
  go_wp2_with fail
  go_loopw [7, 8] (fun v i wr => ∃ k : Nat, k ≤ n ∧ i = .int .i64 (k : Int) ∧ OwnV wr w.heap.size 3 v ((allS fx (l.take k)).map (.int .i64)) ∧ Below w.heap.size w wr) (fun _ i _ => n - (RowKit.intOf i).toNat)
  case atStart => exact ⟨0, by omega, rfl, OwnV.nil _ _ _, hS1⟩
  case round =>
    clear hS1
    obtain ⟨k, hk, rfl, hO, hW⟩ := hrel
    by_cases hlt : k < n
    · obtain ⟨p, hp⟩ : ∃ p, l[k]? = some p := ⟨_, List.getElem?_eq_getElem (by have := LN.out; omega)⟩
      obtain ⟨b, off, rfl, hb0, hsA⟩ := H.out.2 (by omega)
      have at1 := Lib.hid (hsA.step hb0 hW _ _ hp)
      have hbz : b < wr.heap.size := Nat.lt_of_lt_of_le hb0 hW.size
      have t3 : decide ((k : Int) < (n : Int)) = true := decide_eq_true (by omega)
      have k0 : 0 ≤ (k : Int) ∧ (k : Int) < n := by omega
      obtain ⟨s, hs⟩ : ∃ s, allS fx (l.take k) = s := ⟨_, rfl⟩
      have AS := Lib.hid (allS_snoc (fx := fx) hp)
      have hr := (AO.out k (by have := LN.out; omega)).1
      have hrg := fun x hx => RG.out k x (by have := LN.out; omega) hx
      rw [hs] at AS hO hr hrg
      have okp := OK.out p (List.mem_of_getElem? hp)
      unfold okP at okp
      have l1 := put1C (fx := fx) hr hrg
      have l2 : (put1 fx s p.a).length ≤ 5000 := put1C (fx := fx) (put1_rise hr) fun x hx => by
        rcases put1_mem.1 hx with h | ⟨rfl, _⟩
        · exact hrg x h
        · omega
      have hx2 := Lib.hid (HX.out.step hW)
      have ms : n - (k + 1) < n - k := by omega
      clear hsA hp hs hr hrg okp hb0
      have z0 := at1.out 0 _ rfl; have z1 := at1.out 1 _ rfl
      simp only [Nat.add_zero] at z0
      go_wp2_with fail
      refine (inC d p.a wr hx2.out (by omega)).mono ?_
      rintro e w2 ⟨rfl, hS2⟩
      have hx3 := Lib.hid (hx2.out.step hS2)
      have hW2 := hW.trans (hS2.mono hW.size)
      have at2 := Lib.hid (at1.out.step hbz hS2)
      have hbz2 := Nat.lt_of_lt_of_le hbz hS2.size
      have hO2 := hO.step hS2
      clear z0 z1 hx2 at1 hbz hO hW hS2
      have z0 := at2.out 0 _ rfl; have z1 := at2.out 1 _ rfl
      simp only [Nat.add_zero] at z0
      by_cases ha : p.a ∈ fx
      · rw [decide_eq_true ha]
        have e1 : put1 fx s p.a = s := if_pos ha
        rw [e1] at AS l2
        clear ha e1
        go_wp2_with fail
        refine (inC d p.b w2 hx3.out (by omega)).mono ?_
        rintro e w5 ⟨rfl, hS5⟩
        have hW5 := hW2.trans (hS5.mono hW2.size)
        have hO5 := hO2.step hS5
        have at5 := Lib.hid (at2.out.step hbz2 hS5)
        clear z0 z1
        by_cases hb : p.b ∈ fx
        · rw [decide_eq_true hb]
          have e2 : put1 fx s p.b = s := if_pos hb
          rw [e2] at AS
          clear hb e2
          go_wp2_with fail
          exact ⟨⟨k + 1, by omega, by simp, by rw [AS.out]; exact hO5, hW5⟩, by simp [RowKit.intOf]; exact ms⟩
        · rw [decide_eq_false hb]
          have e2 : put1 fx s p.b = withS s p.b := if_neg hb
          rw [e2] at AS
          clear hb e2
          have z0 := at5.out 0 _ rfl
          have z1 := at5.out 1 _ rfl
          simp only [Nat.add_zero] at z0
          go_wp2_with fail
          refine (withC p.b w5 hO5 hW5.size l2).mono ?_
          rintro e w6 ⟨v6, rfl, hO6, hS6⟩
          have hW6 := hW5.trans (hS6.mono hW5.size)
          clear z0 z1
          go_wp2_with fail
          exact ⟨⟨k + 1, by omega, by simp, by rw [AS.out]; exact hO6, hW6⟩, by simp [RowKit.intOf]; exact ms⟩
      · rw [decide_eq_false ha]
        have e1 : put1 fx s p.a = withS s p.a := if_neg ha
        rw [e1] at AS l2
        clear ha e1
        go_wp2_with fail
        refine (withC p.a w2 hO2 hW2.size l1).mono ?_
        rintro e w3 ⟨v3, rfl, hO3, hS3⟩
        have hx4 := Lib.hid (hx3.out.step hS3)
        have hW3 := hW2.trans (hS3.mono hW2.size)
        have at3 := Lib.hid (at2.out.step hbz2 hS3)
        have hbz3 := Nat.lt_of_lt_of_le hbz2 hS3.size
        clear z0 z1 hx3 at2 hbz2 hO2 hW2 hS3
        have z0 := at3.out 0 _ rfl; have z1 := at3.out 1 _ rfl
        simp only [Nat.add_zero] at z0
        go_wp2_with fail
        refine (inC d p.b w3 hx4.out (by omega)).mono ?_
        rintro e w5 ⟨rfl, hS5⟩
        have hW5 := hW3.trans (hS5.mono hW3.size)
        have hO5 := hO3.step hS5
        have at5 := Lib.hid (at3.out.step hbz3 hS5)
        clear z0 z1
        by_cases hb : p.b ∈ fx
        · rw [decide_eq_true hb]
          have e2 : put1 fx (withS s p.a) p.b = (withS s p.a) := if_pos hb
          rw [e2] at AS
          clear hb e2
          go_wp2_with fail
          exact ⟨⟨k + 1, by omega, by simp, by rw [AS.out]; exact hO5, hW5⟩, by simp [RowKit.intOf]; exact ms⟩
        · rw [decide_eq_false hb]
          have e2 : put1 fx (withS s p.a) p.b = withS (withS s p.a) p.b := if_neg hb
          rw [e2] at AS
          clear hb e2
          have z0 := at5.out 0 _ rfl
          have z1 := at5.out 1 _ rfl
          simp only [Nat.add_zero] at z0
          go_wp2_with fail
          refine (withC p.b w5 hO5 hW5.size l2).mono ?_
          rintro e w6 ⟨v6, rfl, hO6, hS6⟩
          have hW6 := hW5.trans (hS6.mono hW5.size)
          clear z0 z1
          go_wp2_with fail
          exact ⟨⟨k + 1, by omega, by simp, by rw [AS.out]; exact hO6, hW6⟩, by simp [RowKit.intOf]; exact ms⟩
    · obtain rfl : k = n := by omega
      have t3 : decide ((k : Int) < (k : Int)) = false := decide_eq_false (by omega)
      rw [List.take_of_length_le (by have := LN.out; omega), AI.out] at hO
      obtain ⟨wb, hwb⟩ : ∃ x, x = wr := ⟨_, rfl⟩
      subst hwb
      have KEY := Lib.hid (fun x (hx : x ∈ keysS fx l) => (keysS_mem OK.out).1 hx)
      have hnk := nums_len
      have hkl : (keysS fx l).length ≤ 4097 := Nat.le_trans (List.length_filter_le _ _) (by rw [nums_len]; exact Nat.le_refl _)
      obtain ⟨nk, hnk2⟩ : ∃ x, (keysS fx l).length = x := ⟨_, rfl⟩
      obtain ⟨A7, c7, e7, hs7, hf7, _⟩ := hO.sl
      rw [List.length_map, hnk2] at e7 hs7
      rw [hnk2] at hkl
      subst e7
      have S7 := Lib.hid hs7; have NK := Lib.hid hnk2
      have hWb := hW
      clear hO hs7 hf7 hnk hnk2 AO AI RG hW
      have hzb := hWb.size
      go_wp2_with fail
      go_loopw [9, 10, 11] (fun ov dv i w2 => ∃ (q : Nat) (dn : List Int), q ≤ nk ∧ i = .int .i64 (q : Int) ∧ Rows w2 wb.heap.size ov dv (outS fx l q) dn ∧ Done fx l q dn ∧ Below wb.heap.size wb w2) (fun _ _ i _ => nk - (RowKit.intOf i).toNat)
      case atStart => exact ⟨0, [], by omega, rfl, ⟨⟨[], OwnV.nil _ _ _, by simp [outS], fun i u g hu => by simp at hu⟩, OwnV.nil _ _ _⟩, Done.start _ _, Below.refl _ _⟩
      case round =>
        obtain ⟨q, dn, hq, rfl, hR, hD, hW⟩ := hrel
        by_cases hql : q < nk
        · obtain ⟨a, ha⟩ : ∃ a, (keysS fx l)[q]? = some a := ⟨_, List.getElem?_eq_getElem (by have := NK.out; omega)⟩
          obtain ⟨b, off, rfl, hb0, hat⟩ := (S7.out.step hW).2 (by omega)
          have z0 := hat q (.int .i64 a) (by rw [List.getElem?_map, ha]; rfl)
          have t4 : decide ((q : Int) < (nk : Int)) = true := decide_eq_true (by omega)
          have q0 : 0 ≤ (q : Int) ∧ (q : Int) < nk := by omega
          have ld := hD.len OK.out
          have hka := Lib.hid (KEY.out a (List.mem_of_getElem? ha))
          have ms : nk - (q + 1) < nk - q := by omega
          have HA := Lib.hid ha
          obtain ⟨nd, hnd⟩ : ∃ x, dn.length = x := ⟨_, rfl⟩
          obtain ⟨Ad, cd, ed, hsd, hfd, _⟩ := hR.dn.sl
          rw [List.length_map, hnd] at ed hsd
          rw [hnd] at ld
          subst ed
          have HR := Lib.hid hR; have HD := Lib.hid hD; have HND := Lib.hid hnd
          have hdlt := Lib.hid (fun k hk => (hR.dn.lt k hk).2)
          clear hat ha hR hD hnd hfd
          go_wp2_with fail
          refine (inC cd a wr hsd (by omega)).mono ?_
          rintro e w2 ⟨rfl, hS2⟩
          have hW2 := hW.trans (hS2.mono hW.size)
          have hs2 := hS2.size
          have R2 := Lib.hid (HR.out.step hS2)
          have z2 := (World.cell?_of_block (hS2.block b hb0)).trans z0
          have D2 := Lib.hid (fun k hk => Nat.lt_of_lt_of_le (hdlt.out k hk) hs2)
          clear z0 hsd hS2 hW HR hdlt
          by_cases hm : a ∈ dn
          · rw [decide_eq_true hm]
            have e1 := outS_in HA.out ((done_root OK.out HD.out HA.out).1 hm)
            have D3 := Lib.hid (HD.out.same OK.out HA.out hm)
            have R3 := Lib.hid (show Rows w2 wb.heap.size u9 (.slice Ad nd cd) (outS fx l (q + 1)) dn from by rw [e1]; exact R2.out)
            clear e1 hm HD R2 HA
            go_wp2_with fail
            exact ⟨⟨q + 1, dn, by omega, by simp, R3.out, D3.out, hW2⟩, by simp [RowKit.intOf]; exact ms⟩
          · rw [decide_eq_false hm]
            have hra := Decidable.byContradiction fun h => hm ((done_root OK.out HD.out HA.out).2 h)
            have e1 := Lib.hid (outS_new HA.out hra)
            have D3 := Lib.hid (HD.out.more OK.out HA.out hm)
            have hwz := hWb.trans (hW2.mono hzb)
            clear hm hra HD
            go_wp2_with fail
            refine (islandC c d a w2 (H.out.step hwz) (HX.out.step hwz) OK.out hka.out hn hm).mono ?_
            rintro e w3 ⟨v, rfl, hv, hS3⟩
            obtain ⟨gC, hgC⟩ : ∃ g, comp fx l a = g := ⟨_, rfl⟩
            have lg := comp_len fx l a
            rw [hgC] at hv lg e1 D3
            obtain ⟨nv, hnv⟩ : ∃ x, gC.length = x := ⟨_, rfl⟩
            obtain ⟨Av, cv, ev, _, hfv, _⟩ := hv.sl
            rw [List.length_map, hnv] at ev
            rw [hnv] at lg
            subst ev
            have hnc : Av = none → cv = 0 := fun e => by
              rcases hfv with ⟨_, h, _⟩ | ⟨g, h⟩
              · exact h
              · rw [h] at e; cases e
            have hW3 := hW2.trans (hS3.mono hW2.size)
            obtain ⟨⟨vs, o3, lvs, hel⟩, d3⟩ := R2.out.step hS3
            have S4 := (Below.refl w3.heap.size w3).alloc (Nat.le_refl _) (.cells [.slice Av nv cv].toArray 32)
            have o4 := o3.step S4
            have d4 := d3.step S4
            have v4 := hv.step S4
            have hX4 : (w3.alloc (.cells [.slice Av nv cv].toArray 32)).cell? ⟨w3.heap.size, 0, none⟩ = some (.slice Av nv cv) := (Box.new (w := w3) (l := [.slice Av nv cv]) (T := 32) rfl).cell 0
            have hB4 := hW3.alloc hW3.size (.cells [.slice Av nv cv].toArray 32)
            have l4 : vs.length ≤ 1000000 := by have := outS_len fx l q; omega
            have l7 : (dn.map (Value.int .i64)).length ≤ 1000000 := by rw [List.length_map]; have := HND.out; omega
            have l8 : nv ≤ 1000000 := by omega
            have HEL := Lib.hid hel; have LVS := Lib.hid lvs; have SS4 := Lib.hid S4; have O3 := Lib.hid o3; have DD3 := Lib.hid d3; have HV := Lib.hid hv
            clear hgC hnv hfv hel lvs R2 z2 S4 o3 d3 hv hS3 lg
            go_wp2_with (first | (at_builtin; refine wpV_app Try.underlying33 infoIs (by rfl) (by decide) (by rfl) (.tmp 73) (.tmp 75) (by rfl) (by rfl) o4 (by rfl) hX4 (by rfl) l4 hB4.size ?_; intro v7 w7 hO7 hG7 hL7 hB7; have B7 := hB7 _ hB4; have d7 : OwnV w7 wb.heap.size 3 (.slice Ad nd cd) (dn.map (.int .i64)) := (d4.block fun k hk hkl => hG7.block k hkl fun e => apart_type d4 o4 k hk e.symm); have v7s := own_slv (v4.block (w' := w7) fun k hk hkl => hG7.block k hkl fun e => apart_type v4 o4 k hk e.symm)) | (at_builtin; refine wpV_allK Try.underlying32 infoI (by rfl) (by decide) (by rfl) (.tmp 77) (.tmp 78) (by rfl) (by rfl) d7 (by rfl) v7s hnc (ints_one _) l7 l8 B7.size ?_; intro v8 w8 hO8 hG8 hL8 hB8; have B8 := hB8 _ B7))
            have RR := Rows.add O3.out LVS.out HEL.out DD3.out D2.out hW2.size HV.out SS4.out hO7 hG7 hO8 hG8 hL8
            rw [← e1.out] at RR
            exact ⟨⟨q + 1, _, by omega, by simp, RR, D3.out, B8⟩, by simp [RowKit.intOf]; exact ms⟩
        · obtain rfl : q = nk := by omega
          have t4 : decide ((q : Int) < (q : Int)) = false := decide_eq_false (by omega)
          have e1 := outS_all fx l
          rw [NK.out] at e1
          rw [e1] at hR
          have hwz := hWb.trans (hW.mono hzb)
          have OV := Lib.hid (show OwnVV wr w.heap.size u9 (islS fx l) from by
            obtain ⟨⟨vs, h1, h2, h3⟩, _⟩ := hR
            exact ⟨vs, h1.mono hzb, h2, fun i u g hu hg => (h3 i u g hu hg).1.mono hzb⟩)
          clear hR hD e1
          go_wp2_with fail
          exact bodyPost_ret (v := .tuple #[u9, .int .i64 0]) (by simp [results, Try.results17, go_sem]) rfl ⟨u9, rfl, OV.out, hwz⟩
theorem risC {A B : Option Addr} {n nf : Nat} (c1 c2 : Nat) {l : List Pr} {fx : List Int} (w : World) (h : SlS w A n l) (hx : SlV w B nf (fx.map (.int .i64))) (hn : n ≤ 1000) (hnf : nf ≤ 1000) :
    RetI 17 #[.slice A n c1, .slice B nf c2] w (islA fx l) (fineS l) := by
  by_cases hf : fineS l = 0
  · have := risOk c1 c2 w h hx hn hnf hf
    unfold islA
    rw [if_pos hf, hf]; exact this
  · have hA : islA fx l = [] := if_neg hf
    rw [hA]
    have t1 : (fineS l != 0) = true := by simpa using hf
    go_enter Try.func17, Try.ntmps17
    go_wp2_with fail
    refine (rfineC c1 w h).mono ?_
    rintro e w1 ⟨rfl, hS1⟩
    go_wp2_with fail
    exact bodyPost_ret (v := .tuple #[.slice none 0 0, .int .i64 (fineS l)]) (by simp [results, Try.results17, go_sem]) rfl ⟨_, rfl, OwnVV.nil _ _, hS1⟩
end QRi
end Go.Proofs.Ytocelepohkbooaa
