/- The place of the island that a number is in: the walk. No condition. -/
import Derived.Test.YtocelepohkbooaaQIn
namespace Go.Proofs.Ytocelepohkbooaa
set_option linter.unusedVariables false
set_option linter.unusedSimpArgs false
open Go.RowKit Go.NP
namespace QPl
open QVl QIn QIs
/-- Slices of integers in a slice. -/
def SlVV (w : World) (A : Option Addr) (n : Nat) (L : List (List Int)) : Prop := L.length = n ∧ (0 < n → ∃ b off, A = some ⟨b, off, none⟩ ∧ b < w.heap.size ∧ ∀ (k : Nat) (g : List Int), L[k]? = some g → ∃ A' c, w.cell? ⟨b, off + k, none⟩ = some (.slice A' g.length c) ∧ SlV w A' g.length (g.map (.int .i64)))
theorem SlVV.step {w w' : World} {A : Option Addr} {n : Nat} {L : List (List Int)} (h : SlVV w A n L) (hS : Below w.heap.size w w') : SlVV w' A n L :=
  ⟨h.1, fun hn => by
    obtain ⟨b, off, e, hb, h2⟩ := h.2 hn
    refine ⟨b, off, e, by have := hS.size; omega, fun k g hk => ?_⟩
    obtain ⟨A', c, h3, h4⟩ := h2 k g hk
    exact ⟨A', c, by rw [World.cell?_of_block (hS.block b hb)]; exact h3, h4.step hS⟩⟩
theorem OwnVV.sl {w : World} {base : Nat} {v : Value} {L : List (List Int)} (h : OwnVV w base v L) : ∃ A c, v = .slice A L.length c ∧ SlVV w A L.length L := by
  obtain ⟨vs, hv, hl, he⟩ := h
  obtain ⟨A, c, e, hs, _⟩ := hv.sl
  rw [hl] at e hs
  refine ⟨A, c, e, rfl, fun hn => ?_⟩
  obtain ⟨b, off, e2, hb, hc⟩ := hs.2 hn
  refine ⟨b, off, e2, hb, fun k g hk => ?_⟩
  have hk' := get_lt hk
  obtain ⟨u, hu⟩ : ∃ u, vs[k]? = some u := ⟨_, List.getElem?_eq_getElem (by omega)⟩
  obtain ⟨A', c', e3, hs', _⟩ := (he k u g hu hk).sl
  rw [List.length_map] at e3 hs'
  exact ⟨A', c', by rw [hc k u hu, e3], hs'⟩
/-- The places, of the first k, of those that a number is in. -/
def poss (L : List (List Int)) (x : Int) (k : Nat) : List Nat := (List.range k).filter fun i => decide (x ∈ L.getD i [])
theorem poss_succ (L : List (List Int)) (x : Int) (k : Nat) : poss L x (k + 1) = poss L x k ++ if x ∈ L.getD k [] then [k] else [] := by
  unfold poss
  rw [List.range_succ, List.filter_append]
  rw [List.filter_cons]
  by_cases h : x ∈ L.getD k []
  · rw [if_pos h, if_pos (decide_eq_true h)]; rfl
  · rw [if_neg h, if_neg (by simpa using h)]; rfl
theorem poss_more (L : List (List Int)) (x : Int) (k : Nat) : ∀ j, (poss L x k).length ≤ (poss L x (k + j)).length
  | 0 => Nat.le_refl _
  | j + 1 => by
    have := poss_more L x k j
    rw [show k + (j + 1) = k + j + 1 by omega, poss_succ, List.length_append]; omega
/-- -1: none; -2: more than one. -/
def place (L : List (List Int)) (x : Int) : Int := match poss L x L.length with
  | [] => -1
  | [i] => i
  | _ => -2
theorem place_more {L : List (List Int)} {x : Int} {k : Nat} (h : 2 ≤ (poss L x k).length) (hk : k ≤ L.length) : place L x = -2 := by
  have h2 := poss_more L x k (L.length - k)
  rw [show k + (L.length - k) = L.length by omega] at h2
  unfold place
  match hp : poss L x L.length with
  | [] => rw [hp] at h2; simp only [List.length_nil] at h2; omega
  | [i] => rw [hp] at h2; simp only [List.length_singleton] at h2; omega
  | i :: j :: r => rfl
set_option maxRecDepth 100000 in
set_option maxHeartbeats 2000000 in
theorem placeC {A : Option Addr} {n : Nat} (cap : Nat) {L : List (List Int)} (x : Int) (w : World) (h : SlVV w A n L) (hi : n ≤ 100000) (hg : ∀ g ∈ L, g.length ≤ 100000) : RetB Try.prog 19 #[.slice A n cap, .int .i64 x] w (.int .i64 (place L x)) := by
  have hln : L.length = n := h.1
  have H := Lib.hid h
  obtain ⟨r, hr⟩ : ∃ r, place L x = r := ⟨_, rfl⟩
  rw [hr]
  have HR := Lib.hid hr
  clear h hr
  go_enter Try.func19, Try.ntmps19
  go_wp2_with fail
  go_loopw [5, 6] (fun a i wr => ∃ (k : Nat) (at_ : Int), k ≤ n ∧ i = .int .i64 (k : Int) ∧ a = .int .i64 at_ ∧ (poss L x k = [] ∧ at_ = -1 ∨ ∃ j : Nat, poss L x k = [j] ∧ at_ = j) ∧ Below w.heap.size w wr) (fun _ i _ => n - (RowKit.intOf i).toNat)
  case atStart => exact ⟨0, -1, by omega, rfl, rfl, .inl ⟨rfl, rfl⟩, Below.refl _ _⟩
  case round =>
    obtain ⟨k, at_, hk, rfl, rfl, hp, hW⟩ := hrel
    by_cases hlt : k < n
    · obtain ⟨g, hgk⟩ : ∃ g, L[k]? = some g := ⟨_, List.getElem?_eq_getElem (by omega)⟩
      obtain ⟨b, off, rfl, hb, hat⟩ := (H.out.step hW).2 (by omega)
      obtain ⟨A', c, z0, hs⟩ := hat k g hgk
      have hgl := hg g (List.mem_of_getElem? hgk)
      have t1 : decide ((k : Int) < (n : Int)) = true := decide_eq_true (by omega)
      have k0 : 0 ≤ (k : Int) ∧ (k : Int) < n := by omega
      have hgD : L.getD k [] = g := by rw [List.getD_eq_getElem?_getD, hgk]; rfl
      have PS := Lib.hid (poss_succ L x k)
      rw [hgD] at PS
      have HP := Lib.hid hp
      clear hp hat hgk hgD
      go_wp2_with fail
      refine (inC c x wr hs (by omega)).mono ?_
      rintro e w1 ⟨rfl, hS⟩
      have hW1 := hW.trans (hS.mono hW.size)
      clear z0 hS hs hW
      by_cases hm : x ∈ g
      · rw [decide_eq_true hm]
        rw [if_pos hm] at PS
        rcases HP.out with ⟨h1, rfl⟩ | ⟨j, h1, rfl⟩
        · have PS2 := Lib.hid (show poss L x (k + 1) = [k] from by rw [PS.out, h1]; rfl)
          clear PS HP hm
          go_wp2_with fail
          exact ⟨⟨k + 1, k, by omega, by simp, rfl, .inr ⟨k, PS2.out, rfl⟩, hW1⟩, by simp [RowKit.intOf]; omega⟩
        · have R := Lib.hid (show -2 = r from by
            rw [← HR.out]
            refine (place_more (k := k + 1) ?_ (by omega)).symm
            rw [PS.out, h1]; simp)
          have j0 : decide (0 ≤ (j : Int)) = true := decide_eq_true (by omega)
          have j1 : decide ((j : Int) ≥ 0) = true := decide_eq_true (by omega)
          clear PS HP hm h1
          go_wp2_with fail
          go_ret
          exact ⟨by rw [← R.out]; rfl, hW1⟩
      · rw [decide_eq_false hm]
        rw [if_neg hm] at PS
        have PS2 := Lib.hid (show poss L x (k + 1) = poss L x k from by rw [PS.out, List.append_nil])
        have HP2 := Lib.hid (show poss L x (k + 1) = [] ∧ at_ = -1 ∨ ∃ j : Nat, poss L x (k + 1) = [j] ∧ at_ = j from by rw [PS2.out]; exact HP.out)
        clear PS PS2 HP hm
        go_wp2_with fail
        exact ⟨⟨k + 1, at_, by omega, by simp, rfl, HP2.out, hW1⟩, by simp [RowKit.intOf]; omega⟩
    · obtain rfl : k = n := by omega
      have t1 : decide ((k : Int) < (k : Int)) = false := decide_eq_false (by omega)
      have R := Lib.hid (show at_ = r from by
        rw [← HR.out]
        unfold place
        rw [hln]
        rcases hp with ⟨h1, rfl⟩ | ⟨j, h1, rfl⟩ <;> rw [h1])
      clear hp
      go_wp2_with fail
      go_ret
      exact ⟨by rw [← R.out]; rfl, hW⟩
end QPl
end Go.Proofs.Ytocelepohkbooaa
