/- An amount in parts: who has one more; sums; parts of scaled weights. Plain Lean. -/
import Derived.Test.YtegjbbblpnenfaaVSpecS
set_option linter.unusedVariables false
namespace Go.Proofs.Ytegjbbblpnenfaa.SP
open Go.Proofs.Ytegjbbblpnenfaa.QM

theorem parts_length (total : Int) (ws : List Int) : (parts total ws).length = ws.length := by simp [parts, bump_length, qs_length]
/-! ### scaled weights -/
end Go.Proofs.Ytegjbbblpnenfaa.SP
