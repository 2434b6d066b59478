/- Points and bounds as numbers: what the functions of bounds answer. No condition. -/
import Derived.Below
namespace Go.NP
def okN (n : Int) : Prop := -268435456 ≤ n ∧ n ≤ 268435456
instance (n : Int) : Decidable (okN n) := by unfold okN; infer_instance
structure Pt where
  x : Int
  y : Int
  z : Int
  deriving DecidableEq
def Pt.ok (p : Pt) : Prop := okN p.x ∧ okN p.y ∧ okN p.z
instance (p : Pt) : Decidable p.ok := by unfold Pt.ok; infer_instance
structure Bd where
  lo : Pt
  hi : Pt
  deriving DecidableEq
def Pt.le (p q : Pt) : Prop := p.x ≤ q.x ∧ p.y ≤ q.y ∧ p.z ≤ q.z
instance (p q : Pt) : Decidable (p.le q) := by unfold Pt.le; infer_instance
def Bd.ok (b : Bd) : Prop := b.lo.ok ∧ b.hi.ok ∧ b.lo.le b.hi
instance (b : Bd) : Decidable b.ok := by unfold Bd.ok; infer_instance
def errIf (p : Prop) [Decidable p] : Int := if p then 0 else 7
theorem errIf_pos {p : Prop} [Decidable p] (h : p) : errIf p = 0 := if_pos h
theorem errIf_neg {p : Prop} [Decidable p] (h : ¬ p) : errIf p = 7 := if_neg h
def pmin (p q : Pt) : Pt := ⟨min p.x q.x, min p.y q.y, min p.z q.z⟩
def pmax (p q : Pt) : Pt := ⟨max p.x q.x, max p.y q.y, max p.z q.z⟩
def bzero : Bd := ⟨⟨0, 0, 0⟩, ⟨0, 0, 0⟩⟩
def join (a b : Bd) : Bd := if a.ok ∧ b.ok then ⟨pmin a.lo b.lo, pmax a.hi b.hi⟩ else bzero
def rOk (r : Int) : Int := if 0 ≤ r ∧ r ≤ 268435456 then r else 0
def down (n r : Int) : Int := max (n - r) (-268435456)
def up (n r : Int) : Int := min (n + r) 268435456
def grow (a : Bd) (r : Int) : Bd :=
  if a.ok then ⟨⟨down a.lo.x (rOk r), down a.lo.y (rOk r), down a.lo.z (rOk r)⟩, ⟨up a.hi.x (rOk r), up a.hi.y (rOk r), up a.hi.z (rOk r)⟩⟩ else bzero
def meet (a b : Bd) : Bool := decide (a.ok ∧ b.ok ∧ (pmax a.lo b.lo).le (pmin a.hi b.hi))
def holds (a b : Bd) : Bool := decide (a.ok ∧ b.ok ∧ a.lo.le b.lo ∧ b.hi.le a.hi)
def size (a : Bd) : Int := if a.ok then a.hi.x - a.lo.x + a.hi.y - a.lo.y + a.hi.z - a.lo.z else 0
theorem Pt.ext' {p q : Pt} (hx : p.x = q.x) (hy : p.y = q.y) (hz : p.z = q.z) : p = q := by cases p; cases q; simp_all
def hull : List Pt → Bd → Bd
  | [], b => b
  | p :: r, b => hull r ⟨pmin b.lo p, pmax b.hi p⟩
def ofS (l : List Pt) (r : Int) : Bd × Int :=
  match l with
  | [] => (bzero, 7)
  | p :: _ => if 0 ≤ r ∧ r ≤ 268435456 ∧ ∀ q ∈ l, q.ok then (grow (hull l ⟨p, p⟩) r, 0) else (bzero, 7)
theorem hull_snoc (l : List Pt) (p : Pt) (b : Bd) : hull (l ++ [p]) b = ⟨pmin (hull l b).lo p, pmax (hull l b).hi p⟩ := by
  induction l generalizing b with
  | nil => rfl
  | cons q r ih => exact ih _
end Go.NP
