/- Functions of the program as Lean functions, each with its contract: out of what the kit's printer wrote for this seat. -/
import Derived.Test.YtdmeepjefccpgaaVRwA
import Derived.Test.YtdmeepjefccpgaaVRwAb
import Derived.Test.YtdmeepjefccpgaaVRwRef10n
namespace Go.Proofs.Ytdmeepjefccpgaa.Rw
open Go.RowKit Go.Proofs.YtdmeepjefccpgaaW.PrintWords Go.Proofs.YtdmeepjefccpgaaW.PrintLast Go.Proofs.YtdmeepjefccpgaaW.PrintMore
attribute [local go_sem] max2_int min2_int max_two min_two max_three min_three max_four min_four   -- for this text's walks alone
set_option linter.unusedVariables false
set_option linter.unusedSimpArgs false
attribute [local go_sem high] leqS gtrS

/-! ### haberdashref10_parts: function 73 -/
def haberdashref10_parts.l0 : Nat → List (S65) → Int → Option (Bool)
 | 0, _, _ => none
 | k + 1, x0, x3 => if x3 < (x0.length : Int) then (if 0 ≤ x3 then ((haberdashref10_Scope.f k ((rd_T65 x0 x3).f0.f0) ((rd_T65 x0 x3).f0.f1)).bind fun t507 => (if t507 = true then (if ((rd_T65 x0 x3).f1) < 1 then (some false) else (if ((rd_T65 x0 x3).f1) > 100 then (some false) else (haberdashref10_parts.l0 k x0 (wrap64 (x3 + 1))))) else (some false))) else (none)) else (if (x0.length : Int) ≥ 1 then (some (decide ((x0.length : Int) ≤ 3))) else (some false))
def haberdashref10_parts.f (k : Nat) (l0 : List (S65)) : Option (Bool) := haberdashref10_parts.l0 k l0 0
end Go.Proofs.Ytdmeepjefccpgaa.Rw
