/- What share tells, in plain Lean: an amount in parts by weights. No program in sight. -/
import Derived.Test.YtebochcdbknodaaVQSpec
namespace Go.Proofs.Ytebochcdbknodaa.SP
open Go.Proofs.Ytebochcdbknodaa.QM

/-- An amount that is right. -/
def rt (n : Int) : Bool := decide (0 ≤ n) && decide (n ≤ 100000000000000)
theorem rt_iff {n : Int} : rt n = true ↔ 0 ≤ n ∧ n ≤ 100000000000000 := by unfold rt; simp

def bump1 (l : List Int) (i : Int) : List Int := l.set i.toNat (l.getD i.toNat 0 + 1)
def bump (l : List Int) (is : List Int) : List Int := is.foldl bump1 l
def qsOf (total S : Int) (ws : List Int) : List Int := ws.map fun w => total * w / S
def rsOf (total S : Int) (ws : List Int) : List Int := ws.map fun w => total * w % S
theorem sum_nonneg (ws : List Int) (h : ∀ x ∈ ws, 0 ≤ x) : 0 ≤ ws.sum := by
  induction ws with
  | nil => simp
  | cons w ws ih => simp only [List.sum_cons]; have := h w List.mem_cons_self; have := ih (fun x hx => h x (List.mem_cons_of_mem _ hx)); omega
def parts (total : Int) (ws : List Int) : List Int :=
  bump (qsOf total ws.sum ws) ((ord (rsOf total ws.sum ws)).take (total - (qsOf total ws.sum ws).sum).toNat)
end Go.Proofs.Ytebochcdbknodaa.SP
