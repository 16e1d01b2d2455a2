/- Tenders that gave something back. Plain Lean. -/
import Derived.Test.YtegjbbblpnenfaaVSpecT
import Derived.Test.YtegjbbblpnenfaaVSpecS
set_option linter.unusedVariables false
set_option linter.unusedSimpArgs false
namespace Go.Proofs.Ytegjbbblpnenfaa.ST
open Go Go.RowKit Go.Proofs.YtegjbbblpnenfaaW.PrintWords Go.Proofs.YtegjbbblpnenfaaW.PrintMore Go.Proofs.Ytegjbbblpnenfaa.Rw Go.Proofs.Ytegjbbblpnenfaa.SP Go.Proofs.Ytegjbbblpnenfaa.QM

abbrev zT : Ten := z39
def take (l : List Ten) (k a : Int) : List Ten × Int := if tall l = false ∨ k < 1 ∨ 9 < k ∨ a < 1 ∨ 100000000000000 < a then ([], 2) else if 6 ≤ l.length then ([], 6) else (l ++ [⟨k, a, 0⟩], 0)

section
variable (is : List Int)
end

end Go.Proofs.Ytegjbbblpnenfaa.ST
