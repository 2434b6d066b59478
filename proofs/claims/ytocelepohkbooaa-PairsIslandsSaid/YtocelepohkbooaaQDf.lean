/- The document's list of those that are, or are not, in another one; what began, stayed and ended: the walks. Condition: the slices' cells are as told. -/
import Derived.Test.YtocelepohkbooaaQCl
namespace Go.Proofs.Ytocelepohkbooaa
set_option linter.unusedVariables false
set_option linter.unusedSimpArgs false
open Go.RowKit Go.NP
namespace QDf
open QCk QCl
def onl (l o : List Pr) (b : Bool) : List Pr := l.filter fun p => decide (p ∈ o) == b
theorem onl_yes {l o : List Pr} {b : Bool} {k : Nat} {p : Pr} (h : l[k]? = some p) (c : (decide (p ∈ o) == b) = true) : onl (l.take (k + 1)) o b = onl (l.take k) o b ++ [p] := by
  unfold onl; rw [take_snoc h, List.filter_append]; simp only [List.filter_cons, c, if_true, List.filter_nil]
theorem onl_no {l o : List Pr} {b : Bool} {k : Nat} {p : Pr} (h : l[k]? = some p) (c : (decide (p ∈ o) == b) = false) : onl (l.take (k + 1)) o b = onl (l.take k) o b := by
  unfold onl; rw [take_snoc h, List.filter_append]; simp [c]
theorem onl_len (l o : List Pr) (b : Bool) : (onl l o b).length ≤ l.length := List.length_filter_le _ _
set_option maxRecDepth 100000 in
set_option maxHeartbeats 2000000 in
theorem onlyC {A B : Option Addr} {n m : Nat} (c1 c2 : Nat) {l o : List Pr} (b : Bool) (w : World) (h : SlS w A n l) (ho : SlS w B m o) (hn : n ≤ 65536) (hm : m ≤ 65536) :
    Calls Try.prog 29 #[.slice A n c1, .slice B m c2, .bool b] w fun e w' => ∃ v, e = .returned v ∧ OwnS w' w.heap.size v (onl l o b) ∧ Below w.heap.size w w' := by
  have hln := h.1
  have H := Lib.hid h; have HO := Lib.hid ho
  clear h ho
  go_enter Try.func29, Try.ntmps29
  go_wp2_with fail
  go_loopw [7, 8] (fun v i wr => ∃ k : Nat, k ≤ n ∧ i = .int .i64 k ∧ OwnS wr w.heap.size v (onl (l.take k) o b) ∧ Below w.heap.size w wr) (fun _ i _ => n - (intOf i).toNat)
  case atStart => exact ⟨0, Nat.zero_le _, rfl, OwnS.nil _ _, Below.refl _ _⟩
  case round =>
    obtain ⟨k, hk, rfl, hO, hW⟩ := hrel
    by_cases hlt : k < n
    · obtain ⟨p, hp⟩ : ∃ p, l[k]? = some p := ⟨_, List.getElem?_eq_getElem (by omega)⟩
      obtain ⟨g, off, rfl, hb, hs⟩ := H.out.2 (by omega)
      have at1 := hs.step hb hW k p hp
      have z0 := at1 0 _ rfl; have z1 := at1 1 _ rfl
      simp only [Nat.add_zero] at z0
      have t1 : decide ((k : Int) < (n : Int)) = true := by simpa using hlt
      have HP := Lib.hid hp
      have AT := Lib.hid at1
      have hbz : g < wr.heap.size := by have := hW.size; omega
      have hlen : (onl (l.take k) o b).length ≤ 100000 := Nat.le_trans (onl_len _ _ _) (by rw [List.length_take]; omega)
      clear hp hs at1
      go_wp2_with fail
      refine (hasC c2 p wr (HO.out.step hW) (by omega)).mono ?_
      rintro e w1 ⟨rfl, hS⟩
      have hO := hO.step hS
      have hW := hW.trans (hS.mono hW.size)
      have at2 := AT.out.step hbz hS
      have y0 := at2 0 _ rfl; have y1 := at2 1 _ rfl
      simp only [Nat.add_zero] at y0
      clear hS z0 z1 AT at2
      cases c : (decide (p ∈ o) == b)
      · have hf := Lib.hid (onl_no HP.out c)
        clear HP
        go_wp2
        exact ⟨⟨k + 1, by omega, by simp, by rw [hf.out]; exact hO, hW⟩, by simp [intOf]; omega⟩
      · have hf := Lib.hid (onl_yes HP.out c)
        have hN := (Below.refl w1.heap.size w1).alloc (Nat.le_refl _) (.cells [.int .i64 p.a, .int .i64 p.b].toArray 39)
        have hO1 := hO.step hN
        have hB1 := hW.alloc hW.size (.cells [.int .i64 p.a, .int .i64 p.b].toArray 39)
        have hX : Box (w1.alloc (.cells [.int .i64 p.a, .int .i64 p.b].toArray 39)) w1.heap.size [.int .i64 p.a, .int .i64 p.b] 39 := Box.new rfl
        clear HP
        go_wp2_with (at_builtin; refine wpL_app (t := p) rfl (.tmp 23) (.tmp 28) (by rfl) (by rfl) hO1 (by rfl) (hX.part 0 2) hlen hB1.size ?_; intro v8 w8 hO8 hB8)
        have hB8 := hB8 _ hB1
        rw [← hf.out] at hO8
        exact ⟨⟨k + 1, by omega, by simp, hO8, hB8⟩, by simp [intOf]; omega⟩
    · have t1 : decide ((k : Int) < (n : Int)) = false := by simpa using hlt
      rw [List.take_of_length_le (by omega)] at hO
      go_wp2
      go_ret
      exact ⟨_, rfl, hO, hW⟩
/-- What hands back three lists of one's own, and an error's number. -/
def Ret3 (f : Nat) (args : Array Value) (w : World) (x y z : List Pr) (n : Int) : Prop := Calls Try.prog f args w fun e w' => ∃ u v t, e = .returned (.tuple #[u, v, t, .int .i64 n]) ∧ OwnS w' w.heap.size u x ∧ OwnS w' w.heap.size v y ∧ OwnS w' w.heap.size t z ∧ Below w.heap.size w w'
def diffE (old now : List Pr) : Int := if 65536 < old.length ∨ 65536 < now.length then 3 else if checkS old = 0 ∧ checkS now = 0 then 0 else 2
theorem checkS_len {l : List Pr} (h : checkS l = 0) : l.length ≤ 65536 := by
  unfold checkS at h
  split at h
  · exact (fineS_ok (by assumption)).1
  · exact absurd h (by assumption)
set_option maxRecDepth 100000 in
set_option maxHeartbeats 2000000 in
theorem rdiffC {A B : Option Addr} {n m : Nat} (c1 c2 : Nat) {old now : List Pr} (w : World) (h : SlS w A n old) (ho : SlS w B m now) :
    Ret3 15 #[.slice A n c1, .slice B m c2] w (if diffE old now = 0 then onl now old false else []) (if diffE old now = 0 then onl old now true else []) (if diffE old now = 0 then onl old now false else []) (diffE old now) := by
  have hn := h.1; have hm := ho.1
  have H := Lib.hid h; have HO := Lib.hid ho
  have HC := Lib.hid (rcheckC c1 w h)
  clear h ho
  by_cases b1 : 65536 < n
  · rw [show diffE old now = 3 from if_pos (.inl (by omega))]
    have t1 : decide ((n : Int) > 65536) = true := decide_eq_true (by omega)
    simp only [show ¬ ((3 : Int) = 0) by decide, if_false]
    unfold Ret3
    go_enter Try.func15, Try.ntmps15
    go_wp2
    exact bodyPost_ret (v := .tuple #[(.slice none 0 0), (.slice none 0 0), (.slice none 0 0), .int .i64 3]) (by simp [results, Try.results15, go_sem]) rfl ⟨(.slice none 0 0), (.slice none 0 0), (.slice none 0 0), rfl, OwnS.nil _ _, OwnS.nil _ _, OwnS.nil _ _, Below.refl _ _⟩
  have t1 : decide ((n : Int) > 65536) = false := decide_eq_false (by omega)
  by_cases b2 : 65536 < m
  · rw [show diffE old now = 3 from if_pos (.inr (by omega))]
    have t2 : decide ((m : Int) > 65536) = true := decide_eq_true (by omega)
    simp only [show ¬ ((3 : Int) = 0) by decide, if_false]
    unfold Ret3
    go_enter Try.func15, Try.ntmps15
    go_wp2
    exact bodyPost_ret (v := .tuple #[(.slice none 0 0), (.slice none 0 0), (.slice none 0 0), .int .i64 3]) (by simp [results, Try.results15, go_sem]) rfl ⟨(.slice none 0 0), (.slice none 0 0), (.slice none 0 0), rfl, OwnS.nil _ _, OwnS.nil _ _, OwnS.nil _ _, Below.refl _ _⟩
  have t2 : decide ((m : Int) > 65536) = false := decide_eq_false (by omega)
  have hE : diffE old now = if checkS old = 0 ∧ checkS now = 0 then 0 else 2 := if_neg (by omega)
  by_cases k1 : checkS old = 0
  · have HC1 := Lib.hid (HC.out.eq (v' := .int .i64 0) (by rw [k1]))
    by_cases k2 : checkS now = 0
    · rw [show diffE old now = 0 by rw [hE, if_pos ⟨k1, k2⟩]]
      simp only [if_true]
      clear hE HC
      unfold Ret3
      go_enter Try.func15, Try.ntmps15
      go_wp2_with fail
      refine HC1.out.mono ?_
      rintro e w1 ⟨rfl, hW⟩
      go_wp2_with fail
      refine ((rcheckC c2 w1 (HO.out.step hW)).eq (v' := .int .i64 0) (by rw [k2])).mono ?_
      rintro e w2 ⟨rfl, hS⟩
      have hW := hW.trans (hS.mono hW.size)
      clear hS
      go_wp2_with fail
      refine (onlyC c2 c1 false w2 (HO.out.step hW) (H.out.step hW) (by omega) (by omega)).mono ?_
      rintro e w3 ⟨u, rfl, hu, hS⟩
      have hu := hu.mono hW.size
      have hW := hW.trans (hS.mono hW.size)
      clear hS
      go_wp2_with fail
      refine (onlyC c1 c2 true w3 (H.out.step hW) (HO.out.step hW) (by omega) (by omega)).mono ?_
      rintro e w4 ⟨v, rfl, hv, hS⟩
      have hu := hu.step hS
      have hv := hv.mono hW.size
      have hW := hW.trans (hS.mono hW.size)
      clear hS
      go_wp2_with fail
      refine (onlyC c1 c2 false w4 (H.out.step hW) (HO.out.step hW) (by omega) (by omega)).mono ?_
      rintro e w5 ⟨t, rfl, ht, hS⟩
      have hu := hu.step hS; have hv := hv.step hS
      have ht := ht.mono hW.size
      have hW := hW.trans (hS.mono hW.size)
      clear hS
      go_wp2
      exact bodyPost_ret (v := .tuple #[u, v, t, .int .i64 0]) (by simp [results, Try.results15, go_sem]) rfl ⟨u, v, t, rfl, hu, hv, ht, hW⟩
    · rw [show diffE old now = 2 by rw [hE, if_neg (fun h => k2 h.2)]]
      simp only [show ¬ ((2 : Int) = 0) by decide, if_false]
      have e2 : (checkS now != 0) = true := by simpa using k2
      clear hE HC k2
      unfold Ret3
      go_enter Try.func15, Try.ntmps15
      go_wp2_with fail
      refine HC1.out.mono ?_
      rintro e w1 ⟨rfl, hW⟩
      go_wp2_with fail
      refine (rcheckC c2 w1 (HO.out.step hW)).mono ?_
      rintro e w2 ⟨rfl, hS⟩
      have hW := hW.trans (hS.mono hW.size)
      clear hS
      generalize checkS now = c at *
      go_wp2
      exact bodyPost_ret (v := .tuple #[(.slice none 0 0), (.slice none 0 0), (.slice none 0 0), .int .i64 2]) (by simp [results, Try.results15, go_sem]) rfl ⟨(.slice none 0 0), (.slice none 0 0), (.slice none 0 0), rfl, OwnS.nil _ _, OwnS.nil _ _, OwnS.nil _ _, hW⟩
  · rw [show diffE old now = 2 by rw [hE, if_neg (fun h => k1 h.1)]]
    simp only [show ¬ ((2 : Int) = 0) by decide, if_false]
    have e2 : (checkS old != 0) = true := by simpa using k1
    clear hE k1
    unfold Ret3
    generalize checkS old = c at *
    go_enter Try.func15, Try.ntmps15
    go_wp2_with fail
    refine HC.out.mono ?_
    rintro e w1 ⟨rfl, hW⟩
    go_wp2
    exact bodyPost_ret (v := .tuple #[(.slice none 0 0), (.slice none 0 0), (.slice none 0 0), .int .i64 2]) (by simp [results, Try.results15, go_sem]) rfl ⟨(.slice none 0 0), (.slice none 0 0), (.slice none 0 0), rfl, OwnS.nil _ _, OwnS.nil _ _, OwnS.nil _ _, hW⟩
end QDf
end Go.Proofs.Ytocelepohkbooaa
