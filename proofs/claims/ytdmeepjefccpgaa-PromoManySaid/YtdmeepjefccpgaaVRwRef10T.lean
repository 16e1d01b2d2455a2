/- Functions of the program as Lean functions, each with its contract: out of what the kit's printer wrote for this seat. -/
import Derived.Test.YtdmeepjefccpgaaVRwA
import Derived.Test.YtdmeepjefccpgaaVRwAb
import Derived.Test.YtdmeepjefccpgaaVRwRef10a
namespace Go.Proofs.Ytdmeepjefccpgaa.Rw
open Go.RowKit Go.Proofs.YtdmeepjefccpgaaW.PrintWords Go.Proofs.YtdmeepjefccpgaaW.PrintLast Go.Proofs.YtdmeepjefccpgaaW.PrintMore
attribute [local go_sem] max2_int min2_int max_two min_two max_three min_three max_four min_four   -- for this text's walks alone
set_option linter.unusedVariables false
set_option linter.unusedSimpArgs false
attribute [local go_sem high] leqS gtrS

/-! ### haberdashref10_tiers: function 74 -/
def haberdashref10_tiers.l0 : Nat → List (S67) → Int → Option (Bool)
 | 0, _, _ => none
 | k + 1, x0, x3 => if x3 < (x0.length : Int) then (if 0 ≤ x3 then ((haberdashref10_in.f ((rd_T67 x0 x3).f0) 10000000000000).bind fun t512 => (if t512 = true then ((haberdashref10_in.f ((rd_T67 x0 x3).f1) 10000).bind fun t513 => (if t513 = true then ((haberdashref10_in.f ((rd_T67 x0 x3).f2) 10000000000000).bind fun t514 => (if t514 = true then (if ((rd_T67 x0 x3).f1) = 0 then (if ((rd_T67 x0 x3).f2) = 0 then (some false) else (if x3 > 0 then (if 0 ≤ (wrap64 (x3 - 1)) then (if (wrap64 (x3 - 1)) < (x0.length : Int) then (if ((rd_T67 x0 x3).f0) ≤ ((rd_T67 x0 (wrap64 (x3 - 1))).f0) then (some false) else (haberdashref10_tiers.l0 k x0 (wrap64 (x3 + 1)))) else (none)) else (none)) else (haberdashref10_tiers.l0 k x0 (wrap64 (x3 + 1))))) else (if x3 > 0 then (if 0 ≤ (wrap64 (x3 - 1)) then (if (wrap64 (x3 - 1)) < (x0.length : Int) then (if ((rd_T67 x0 x3).f0) ≤ ((rd_T67 x0 (wrap64 (x3 - 1))).f0) then (some false) else (haberdashref10_tiers.l0 k x0 (wrap64 (x3 + 1)))) else (none)) else (none)) else (haberdashref10_tiers.l0 k x0 (wrap64 (x3 + 1))))) else (some false))) else (some false))) else (some false))) else (none)) else (if (x0.length : Int) ≥ 1 then (some (decide ((x0.length : Int) ≤ 6))) else (some false))
def haberdashref10_tiers.f (k : Nat) (l0 : List (S67)) : Option (Bool) := haberdashref10_tiers.l0 k l0 0
end Go.Proofs.Ytdmeepjefccpgaa.Rw
