/- pairs.Islands: what it answers. Condition: at most 1000 pairs and 1000 numbers. -/
import Derived.Test.YtocelepohkbooaaQIs
namespace Go.Proofs.Ytocelepohkbooaa
set_option linter.unusedVariables false
set_option linter.unusedSimpArgs false
open Go.RowKit Go.NP
namespace QIc
open QVl QIp QCk QIs
/-- What Islands answers. -/
def islA (fx : List Int) (l : List Pr) : List (List Int) := if fineS l = 0 then islS fx l else []
theorem OwnVV.nil (w : World) (base : Nat) : OwnVV w base (.slice none 0 0) [] := ⟨[], OwnV.nil _ _ _, rfl, fun i u g h => by simp at h⟩
set_option maxHeartbeats 1000000 in
theorem islC {A B : Option Addr} {n nf : Nat} (c1 c2 : Nat) {l : List Pr} {fx : List Int} (w : World) (h : SlS w A n l) (hx : SlV w B nf (fx.map (.int .i64))) (hw : ∀ x ∈ fx, QVm.wfI x) (hn : n ≤ 1000) (hnf : nf ≤ 1000) :
    RetI 16 #[.slice A n c1, .slice B nf c2] w (islA fx l) (fineS l) := by
  by_cases hf : fineS l = 0
  · have := islOk c1 c2 w h hx hw hn hnf hf
    unfold islA
    rw [if_pos hf, hf]; exact this
  · have hA : islA fx l = [] := if_neg hf
    rw [hA]
    have t1 : (fineS l != 0) = true := by simpa using hf
    go_enter Try.func16, Try.ntmps16
    go_wp2_with fail
    refine (fineC c1 w h).mono ?_
    rintro e w1 ⟨rfl, hS1⟩
    go_wp2_with fail
    exact bodyPost_ret (v := .tuple #[.slice none 0 0, .int .i64 (fineS l)]) (by simp [results, Try.results16, go_sem]) rfl ⟨_, rfl, OwnVV.nil _ _, hS1⟩
end QIc
end Go.Proofs.Ytocelepohkbooaa
