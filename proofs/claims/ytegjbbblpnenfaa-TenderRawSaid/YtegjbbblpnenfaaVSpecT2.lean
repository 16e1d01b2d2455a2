/- Tenders that gave something back. Plain Lean. -/
import Derived.Test.YtegjbbblpnenfaaVSpecT
import Derived.Test.YtegjbbblpnenfaaVSpecS
set_option linter.unusedVariables false
set_option linter.unusedSimpArgs false
namespace Go.Proofs.Ytegjbbblpnenfaa.ST
open Go Go.RowKit Go.Proofs.YtegjbbblpnenfaaW.PrintWords Go.Proofs.YtegjbbblpnenfaaW.PrintMore Go.Proofs.Ytegjbbblpnenfaa.Rw Go.Proofs.Ytegjbbblpnenfaa.SP Go.Proofs.Ytegjbbblpnenfaa.QM

abbrev zT : Ten := z39
def addG (x : Ten) (n : Int) : Ten := ⟨x.f0, x.f1, x.f2 + n⟩
/-- Tenders that gave something back. -/
def giveL (out : List Ten) : List Bak → List Ten × Int
  | [] => (out, 0)
  | b :: bs => if b.f0 < 0 ∨ (out.length : Int) ≤ b.f0 then ([], 7) else if b.f1 < 1 then ([], 2) else if dif (out.getD b.f0.toNat zT) < b.f1 then ([], 12) else giveL (out.set b.f0.toNat (addG (out.getD b.f0.toNat zT) b.f1)) bs
def give (l : List Ten) (bs : List Bak) : List Ten × Int := if tall l = true then giveL l bs else ([], 2)
def take (l : List Ten) (k a : Int) : List Ten × Int := if tall l = false ∨ k < 1 ∨ 9 < k ∨ a < 1 ∨ 100000000000000 < a then ([], 2) else if 6 ≤ l.length then ([], 6) else (l ++ [⟨k, a, 0⟩], 0)

theorem getD_of {l : List Ten} {i : Nat} (h : i < l.length) : l.getD i zT = l[i] := by simp [h]
theorem tok_add {x : Ten} {n : Int} (h : tok x = true) (h0 : 0 ≤ n) (h1 : n ≤ dif x) : tok (addG x n) = true := by
  have := tok_iff.1 h
  unfold dif at h1
  refine tok_iff.2 ?_
  show 1 ≤ x.f0 ∧ x.f0 ≤ 9 ∧ 0 ≤ x.f1 ∧ x.f1 ≤ 100000000000000 ∧ 0 ≤ x.f2 + n ∧ x.f2 + n ≤ x.f1
  omega
section
variable (is : List Int)
end

end Go.Proofs.Ytegjbbblpnenfaa.ST
