/- A rising list with a number more. Condition: a list of one's own of at most 5000. -/
import Derived.Test.YtocelepohkbooaaQIn
namespace Go.Proofs.Ytocelepohkbooaa
set_option linter.unusedVariables false
set_option linter.unusedSimpArgs false
open Go.RowKit Go.NP
namespace QWt
open QVl QIn
/-- A rising list with a number more. -/
def withS (l : List Int) (x : Int) : List Int := if x ∈ l then l else l.takeWhile (fun y => decide (y < x)) ++ x :: l.dropWhile (fun y => decide (y < x))
theorem takeWhile_at {q : Int → Bool} : ∀ (l : List Int) (k : Nat), (∀ x (r : Int), x < k → l[x]? = some r → q r = true) → (∀ r, l[k]? = some r → q r = false) → k ≤ l.length → l.take k = l.takeWhile q ∧ l.drop k = l.dropWhile q
  | [], k, _, _, hk => by simp
  | y :: r, 0, _, h2, _ => by have := h2 y rfl; simp [List.takeWhile_cons, List.dropWhile_cons, this]
  | y :: r, k + 1, h1, h2, hk => by
    have hy := h1 0 y (by omega) rfl
    obtain ⟨a, b⟩ := takeWhile_at r k (fun x s hx hs => h1 (x + 1) s (by omega) (by simpa using hs)) (fun s hs => h2 s (by simpa using hs)) (by simpa using hk)
    rw [List.takeWhile_cons, List.dropWhile_cons, hy]
    simp [a, b]
theorem SlV.take {w : World} {A : Option Addr} {n k : Nat} {l : List Value} (h : SlV w A n l) (hk : k ≤ n) : SlV w A k (l.take k) := by
  refine ⟨by rw [List.length_take, h.1]; omega, fun h0 => ?_⟩
  obtain ⟨b, off, e, hb, h2⟩ := h.2 (by omega)
  refine ⟨b, off, e, hb, fun i v hi => h2 i v ?_⟩
  have := get_lt hi
  rw [List.length_take] at this
  rwa [List.getElem?_take_of_lt (by omega)] at hi
theorem SlV.drop {w : World} {g n k : Nat} {l : List Value} (h : SlV w (some ⟨g, 0, none⟩) n l) (hk : k ≤ n) : SlV w (some ⟨g, k, none⟩) (n - k) (l.drop k) := by
  refine ⟨by rw [List.length_drop, h.1], fun h0 => ?_⟩
  obtain ⟨b, off, e, hb, h2⟩ := h.2 (by omega)
  cases e
  refine ⟨g, k, rfl, hb, fun i v hi => ?_⟩
  rw [List.getElem?_drop] at hi
  have := h2 (k + i) v hi
  rwa [Nat.zero_add] at this
theorem ints_one (l : List Int) : ∀ t ∈ l.map (Value.int .i64), t.oneCell' = true := fun t ht => by
  obtain ⟨x, _, rfl⟩ := List.mem_map.1 ht; rfl
set_option maxRecDepth 100000 in
set_option maxHeartbeats 4000000 in
theorem withC {base : Nat} {v : Value} {l : List Int} (x : Int) (w : World) (h : OwnV w base 3 v (l.map (.int .i64))) (hb : base ≤ w.heap.size) (hl : l.length ≤ 5000) :
    Calls Try.prog 35 #[v, .int .i64 x] w fun e w' => ∃ v', e = .returned v' ∧ OwnV w' base 3 v' ((withS l x).map (.int .i64)) ∧ Below w.heap.size w w' := by
  obtain ⟨A, c, e0, hs, hfm, hc⟩ := h.sl
  rw [List.length_map] at e0 hs hc
  obtain ⟨n, hn⟩ : ∃ n, l.length = n := ⟨_, rfl⟩
  rw [hn] at e0 hs hc hl
  subst e0
  have SL := Lib.hid hs; have HO := Lib.hid h; have FM := Lib.hid hfm
  clear h hs hfm
  by_cases hm : x ∈ l
  · have hW : withS l x = l := if_pos hm
    rw [hW]
    have HM := Lib.hid hm
    clear hm hW
    go_enter Try.func35, Try.ntmps35
    go_wp2_with fail
    refine (inC c x w SL.out (by omega)).mono ?_
    rintro e w1 ⟨rfl, hS1⟩
    rw [decide_eq_true HM.out]
    go_wp2_with fail
    go_ret
    exact ⟨_, rfl, HO.out.step hS1, hS1⟩
  · have hW : withS l x = l.takeWhile (fun y => decide (y < x)) ++ x :: l.dropWhile (fun y => decide (y < x)) := if_neg hm
    obtain ⟨ws, hws⟩ : ∃ y, withS l x = y := ⟨_, rfl⟩
    rw [hws]
    rw [hws] at hW
    have HM := Lib.hid hm; have HWS := Lib.hid hW
    clear hm hW hws
    go_enter Try.func35, Try.ntmps35
    go_wp2_with fail
    refine (inC c x w SL.out (by omega)).mono ?_
    rintro e w1 ⟨rfl, hS1⟩
    rw [decide_eq_false HM.out]
    go_wp2_with fail
    go_loopw [5] (fun i wr => ∃ k : Nat, k ≤ n ∧ i = .int .i64 (k : Int) ∧ (∀ j (r : Int), j < k → l[j]? = some r → r < x) ∧ Below w.heap.size w wr) (fun i _ => n - (RowKit.intOf i).toNat)
    case atStart => exact ⟨0, by omega, rfl, fun j r hj => absurd hj (by omega), hS1⟩
    case round =>
      obtain ⟨k, hk, rfl, hlow, hV⟩ := hrel
      have LOW := Lib.hid hlow
      clear hlow
      by_cases hkl : k < n
      · obtain ⟨y, hy⟩ : ∃ y, l[k]? = some y := ⟨_, List.getElem?_eq_getElem (by omega)⟩
        have hg : ∃ g, A = some ⟨g, 0, none⟩ := by
          rcases FM.out with ⟨_, _, e⟩ | h
          · have : l = [] := by simpa using e
            subst this; simp at hn; omega
          · exact h
        obtain ⟨g, rfl⟩ := hg
        obtain ⟨b, off, e2, hb0, hat⟩ := (SL.out.step hV).2 (by omega)
        cases e2
        have z0 := hat k (.int .i64 y) (by rw [List.getElem?_map, hy]; rfl)
        rw [Nat.zero_add] at z0
        have k1 : decide ((k : Int) < (n : Int)) = true := decide_eq_true (by omega)
        have k0 : 0 ≤ (k : Int) ∧ (k : Int) < n := by omega
        have HY := Lib.hid hy
        clear hy hat
        by_cases hyx : y < x
        · have e1 : decide (y < x) = true := decide_eq_true hyx
          have L2 := Lib.hid (fun (j : Nat) (r : Int) (hj : j < k + 1) (hr : l[j]? = some r) => (show r < x from by
            rcases Nat.lt_or_ge j k with h | h
            · exact LOW.out j r h hr
            · obtain rfl : j = k := by omega
              have := HY.out
              rw [this] at hr; cases hr; exact hyx))
          clear HY LOW hyx
          go_wp2_with fail
          exact ⟨⟨k + 1, by omega, by simp, L2.out, hV⟩, by simp [RowKit.intOf]; omega⟩
        · have e1 : decide (y < x) = false := decide_eq_false hyx
          have HE := Lib.hid (takeWhile_at (q := fun y => decide (y < x)) l k (fun j r hj hr => decide_eq_true (LOW.out j r hj hr)) (fun r hr => by have := HY.out; rw [this] at hr; cases hr; exact e1) (by omega))
          have hck : ¬ c = k := by omega
          have k2 : 0 ≤ (k : Int) ∧ (k : Int) ≤ n ∧ (k : Int) ≤ c := by omega
          clear HY LOW hyx
          have hn0 : OwnV (wr.alloc (.cells #[] 3)) wr.heap.size 3 (.slice (some ⟨wr.heap.size, 0, none⟩) 0 0) [] := QVl.own_new wr 3 [] (by simp)
          have S0 := (Below.refl wr.heap.size wr).alloc (Nat.le_refl _) (.cells #[] 3)
          have C1 := (SlV.take (k := k) (SL.out.step hV) (by omega)).step S0
          rw [← List.map_take] at C1
          have hlt5 : (l.take k).length ≤ 5000 := by rw [List.length_take]; omega
          have hk5 : k ≤ 1000000 := by omega
          go_wp2_with (first | (at_builtin; refine wpV_all Try.underlying32 infoI (by rfl) (by decide) (by rfl) (.tmp 25) (.tmp 28) (by rfl) (by rfl) hn0 (by rfl) C1 ((fun e => by cases e)) (ints_one _) (by simp) hk5 S0.size ?_; intro v5 w5 hO5 hB5; have B5 := hB5 _ S0; rw [List.nil_append] at hO5; have S1 := (Below.refl w5.heap.size w5).alloc (Nat.le_refl _) (.cells [.int .i64 x].toArray 3); have hO6 := hO5.step S1; have B6 := B5.alloc B5.size (.cells [.int .i64 x].toArray 3); have hX6 : (w5.alloc (.cells [.int .i64 x].toArray 3)).cell? ⟨w5.heap.size, 0, none⟩ = some (.int .i64 x) := (Box.new (w := w5) (l := [.int .i64 x]) (T := 3) rfl).cell 0; have hl6 : ((l.take k).map (Value.int .i64)).length ≤ 1000000 := by rw [List.length_map]; omega) | (at_builtin; refine wpV_app Try.underlying32 infoI (by rfl) (by decide) (by rfl) (.tmp 30) (.tmp 32) (by rfl) (by rfl) hO6 (by rfl) hX6 (by rfl) hl6 B6.size ?_; intro v7 w7 hO7 hG7 hL7 hB7; have B7 := hB7 _ B6; have B7' := hV.trans (B7.mono hV.size); have hl7 : ((l.take k).map (Value.int .i64) ++ [Value.int .i64 x] : List Value).length ≤ 1000000 := (by rw [List.length_append, List.length_map, List.length_singleton]; omega); (have C3 := SlV.drop (k := k) (SL.out.step B7') (by omega))) | (at_builtin; refine wpV_all Try.underlying32 infoI (by rfl) (by decide) (by rfl) (.tmp 34) (.tmp 37) (by rfl) (by rfl) hO7 (by rfl) C3 ((fun e => by cases e)) (fun t ht => ints_one l t (List.mem_of_mem_drop ht)) hl7 (by omega) B7.size ?_; intro v9 w9 hO9 hB9; have B9 := hB9 _ B7))
          rw [← List.map_drop, HE.out.1, HE.out.2] at hO9
          have hO10 : OwnV w9 wr.heap.size 3 v9 (ws.map (.int .i64)) := by rw [HWS.out]; simpa using hO9
          go_ret
          exact ⟨_, rfl, hO10.mono (Nat.le_trans hb hV.size), hV.trans (B9.mono hV.size)⟩
      · obtain rfl : k = n := by omega
        have HE := Lib.hid (takeWhile_at (q := fun y => decide (y < x)) l k (fun j r hj hr => decide_eq_true (LOW.out j r hj hr)) (fun r hr => absurd (get_lt hr) (by omega)) (by omega))
        have k1 : decide ((k : Int) < (k : Int)) = false := decide_eq_false (by omega)
        clear LOW
        rcases FM.out with ⟨rfl, rfl, e⟩ | ⟨g, rfl⟩
        · have hle : l = [] := by simpa using e
          obtain rfl : k = 0 := by rw [hle] at hn; simpa using hn.symm
          clear e hle
          have k2 : (0 : Int) ≤ 0 := by omega
          have hn0 : OwnV (wr.alloc (.cells #[] 3)) wr.heap.size 3 (.slice (some ⟨wr.heap.size, 0, none⟩) 0 0) [] := QVl.own_new wr 3 [] (by simp)
          have S0 := (Below.refl wr.heap.size wr).alloc (Nat.le_refl _) (.cells #[] 3)
          have C1 := (SlV.take (k := 0) (SL.out.step hV) (by omega)).step S0
          rw [← List.map_take] at C1
          have hlt5 : (l.take 0).length ≤ 5000 := by rw [List.length_take]; omega
          have hk5 : 0 ≤ 1000000 := by omega
          go_wp2_with (first | (at_builtin; refine wpV_all Try.underlying32 infoI (by rfl) (by decide) (by rfl) (.tmp 25) (.tmp 28) (by rfl) (by rfl) hn0 (by rfl) C1 ((fun _ => rfl)) (ints_one _) (by simp) hk5 S0.size ?_; intro v5 w5 hO5 hB5; have B5 := hB5 _ S0; rw [List.nil_append] at hO5; have S1 := (Below.refl w5.heap.size w5).alloc (Nat.le_refl _) (.cells [.int .i64 x].toArray 3); have hO6 := hO5.step S1; have B6 := B5.alloc B5.size (.cells [.int .i64 x].toArray 3); have hX6 : (w5.alloc (.cells [.int .i64 x].toArray 3)).cell? ⟨w5.heap.size, 0, none⟩ = some (.int .i64 x) := (Box.new (w := w5) (l := [.int .i64 x]) (T := 3) rfl).cell 0; have hl6 : ((l.take 0).map (Value.int .i64)).length ≤ 1000000 := by rw [List.length_map]; omega) | (at_builtin; refine wpV_app Try.underlying32 infoI (by rfl) (by decide) (by rfl) (.tmp 30) (.tmp 32) (by rfl) (by rfl) hO6 (by rfl) hX6 (by rfl) hl6 B6.size ?_; intro v7 w7 hO7 hG7 hL7 hB7; have B7 := hB7 _ B6; have B7' := hV.trans (B7.mono hV.size); have hl7 : ((l.take 0).map (Value.int .i64) ++ [Value.int .i64 x] : List Value).length ≤ 1000000 := (by rw [List.length_append, List.length_map, List.length_singleton]; omega); (have C3 : SlV w7 none 0 ((l.map (Value.int .i64)).drop 0) := ⟨by rw [List.length_drop, List.length_map]; omega, fun h => absurd h (by omega)⟩)) | (at_builtin; refine wpV_all Try.underlying32 infoI (by rfl) (by decide) (by rfl) (.tmp 34) (.tmp 37) (by rfl) (by rfl) hO7 (by rfl) C3 ((fun _ => rfl)) (fun t ht => ints_one l t (List.mem_of_mem_drop ht)) hl7 (by omega) B7.size ?_; intro v9 w9 hO9 hB9; have B9 := hB9 _ B7))
          rw [← List.map_drop, HE.out.1, HE.out.2] at hO9
          have hO10 : OwnV w9 wr.heap.size 3 v9 (ws.map (.int .i64)) := by rw [HWS.out]; simpa using hO9
          go_ret
          exact ⟨_, rfl, hO10.mono (Nat.le_trans hb hV.size), hV.trans (B9.mono hV.size)⟩
        · by_cases hck : c = k
          · subst hck
            have k2 : 0 ≤ (c : Int) ∧ (c : Int) ≤ c := by omega
            have hn0 : OwnV (wr.alloc (.cells #[] 3)) wr.heap.size 3 (.slice (some ⟨wr.heap.size, 0, none⟩) 0 0) [] := QVl.own_new wr 3 [] (by simp)
            have S0 := (Below.refl wr.heap.size wr).alloc (Nat.le_refl _) (.cells #[] 3)
            have C1 := (SlV.take (k := c) (SL.out.step hV) (by omega)).step S0
            rw [← List.map_take] at C1
            have hlt5 : (l.take c).length ≤ 5000 := by rw [List.length_take]; omega
            have hk5 : c ≤ 1000000 := by omega
            go_wp2_with (first | (at_builtin; refine wpV_all Try.underlying32 infoI (by rfl) (by decide) (by rfl) (.tmp 25) (.tmp 28) (by rfl) (by rfl) hn0 (by rfl) C1 ((fun e => by cases e)) (ints_one _) (by simp) hk5 S0.size ?_; intro v5 w5 hO5 hB5; have B5 := hB5 _ S0; rw [List.nil_append] at hO5; have S1 := (Below.refl w5.heap.size w5).alloc (Nat.le_refl _) (.cells [.int .i64 x].toArray 3); have hO6 := hO5.step S1; have B6 := B5.alloc B5.size (.cells [.int .i64 x].toArray 3); have hX6 : (w5.alloc (.cells [.int .i64 x].toArray 3)).cell? ⟨w5.heap.size, 0, none⟩ = some (.int .i64 x) := (Box.new (w := w5) (l := [.int .i64 x]) (T := 3) rfl).cell 0; have hl6 : ((l.take c).map (Value.int .i64)).length ≤ 1000000 := by rw [List.length_map]; omega) | (at_builtin; refine wpV_app Try.underlying32 infoI (by rfl) (by decide) (by rfl) (.tmp 30) (.tmp 32) (by rfl) (by rfl) hO6 (by rfl) hX6 (by rfl) hl6 B6.size ?_; intro v7 w7 hO7 hG7 hL7 hB7; have B7 := hB7 _ B6; have B7' := hV.trans (B7.mono hV.size); have hl7 : ((l.take c).map (Value.int .i64) ++ [Value.int .i64 x] : List Value).length ≤ 1000000 := (by rw [List.length_append, List.length_map, List.length_singleton]; omega); (have C3 : SlV w7 (some ⟨g, 0, none⟩) 0 ((l.map (Value.int .i64)).drop c) := ⟨by rw [List.length_drop, List.length_map]; omega, fun h => absurd h (by omega)⟩)) | (at_builtin; refine wpV_all Try.underlying32 infoI (by rfl) (by decide) (by rfl) (.tmp 34) (.tmp 37) (by rfl) (by rfl) hO7 (by rfl) C3 ((fun e => by cases e)) (fun t ht => ints_one l t (List.mem_of_mem_drop ht)) hl7 (by omega) B7.size ?_; intro v9 w9 hO9 hB9; have B9 := hB9 _ B7))
            rw [← List.map_drop, HE.out.1, HE.out.2] at hO9
            have hO10 : OwnV w9 wr.heap.size 3 v9 (ws.map (.int .i64)) := by rw [HWS.out]; simpa using hO9
            go_ret
            exact ⟨_, rfl, hO10.mono (Nat.le_trans hb hV.size), hV.trans (B9.mono hV.size)⟩
          · have k2 : 0 ≤ (k : Int) ∧ (k : Int) ≤ c := by omega
            have hn0 : OwnV (wr.alloc (.cells #[] 3)) wr.heap.size 3 (.slice (some ⟨wr.heap.size, 0, none⟩) 0 0) [] := QVl.own_new wr 3 [] (by simp)
            have S0 := (Below.refl wr.heap.size wr).alloc (Nat.le_refl _) (.cells #[] 3)
            have C1 := (SlV.take (k := k) (SL.out.step hV) (by omega)).step S0
            rw [← List.map_take] at C1
            have hlt5 : (l.take k).length ≤ 5000 := by rw [List.length_take]; omega
            have hk5 : k ≤ 1000000 := by omega
            go_wp2_with (first | (at_builtin; refine wpV_all Try.underlying32 infoI (by rfl) (by decide) (by rfl) (.tmp 25) (.tmp 28) (by rfl) (by rfl) hn0 (by rfl) C1 ((fun e => by cases e)) (ints_one _) (by simp) hk5 S0.size ?_; intro v5 w5 hO5 hB5; have B5 := hB5 _ S0; rw [List.nil_append] at hO5; have S1 := (Below.refl w5.heap.size w5).alloc (Nat.le_refl _) (.cells [.int .i64 x].toArray 3); have hO6 := hO5.step S1; have B6 := B5.alloc B5.size (.cells [.int .i64 x].toArray 3); have hX6 : (w5.alloc (.cells [.int .i64 x].toArray 3)).cell? ⟨w5.heap.size, 0, none⟩ = some (.int .i64 x) := (Box.new (w := w5) (l := [.int .i64 x]) (T := 3) rfl).cell 0; have hl6 : ((l.take k).map (Value.int .i64)).length ≤ 1000000 := by rw [List.length_map]; omega) | (at_builtin; refine wpV_app Try.underlying32 infoI (by rfl) (by decide) (by rfl) (.tmp 30) (.tmp 32) (by rfl) (by rfl) hO6 (by rfl) hX6 (by rfl) hl6 B6.size ?_; intro v7 w7 hO7 hG7 hL7 hB7; have B7 := hB7 _ B6; have B7' := hV.trans (B7.mono hV.size); have hl7 : ((l.take k).map (Value.int .i64) ++ [Value.int .i64 x] : List Value).length ≤ 1000000 := (by rw [List.length_append, List.length_map, List.length_singleton]; omega); (have C3 := SlV.drop (k := k) (SL.out.step B7') (by omega); rw [Nat.sub_self] at C3)) | (at_builtin; refine wpV_all Try.underlying32 infoI (by rfl) (by decide) (by rfl) (.tmp 34) (.tmp 37) (by rfl) (by rfl) hO7 (by rfl) C3 ((fun e => by cases e)) (fun t ht => ints_one l t (List.mem_of_mem_drop ht)) hl7 (by omega) B7.size ?_; intro v9 w9 hO9 hB9; have B9 := hB9 _ B7))
            rw [← List.map_drop, HE.out.1, HE.out.2] at hO9
            have hO10 : OwnV w9 wr.heap.size 3 v9 (ws.map (.int .i64)) := by rw [HWS.out]; simpa using hO9
            go_ret
            exact ⟨_, rfl, hO10.mono (Nat.le_trans hb hV.size), hV.trans (B9.mono hV.size)⟩
end QWt
end Go.Proofs.Ytocelepohkbooaa
