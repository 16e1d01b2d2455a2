/- Numbers that a statement brings into range. Plain Lean. -/
import Derived.Test.YtegjbbblpnenfaaVRwMon
set_option linter.unusedVariables false
namespace Go.Proofs.Ytegjbbblpnenfaa.MP
open Go Go.RowKit Go.Proofs.YtegjbbblpnenfaaW.PrintWords Go.Proofs.Ytegjbbblpnenfaa.Rw
theorem wrap_ok {x : Int} (h0 : -9223372036854775808 ≤ x) (h1 : x ≤ 9223372036854775807) : wrap64 x = x := by unfold wrap64; omega
/-- A number from 0 to below m. -/
def md (a m : Int) : Int := IntKind.u64.wrap a % m
end Go.Proofs.Ytegjbbblpnenfaa.MP
