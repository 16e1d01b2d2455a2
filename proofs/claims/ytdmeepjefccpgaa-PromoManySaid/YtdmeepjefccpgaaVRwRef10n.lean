/- Functions of the program as Lean functions, each with its contract: out of what the kit's printer wrote for this seat. -/
import Derived.Test.YtdmeepjefccpgaaVRwA
import Derived.Test.YtdmeepjefccpgaaVRwAb
import Derived.Test.YtdmeepjefccpgaaVRwRef10a
namespace Go.Proofs.Ytdmeepjefccpgaa.Rw
open Go.RowKit Go.Proofs.YtdmeepjefccpgaaW.PrintWords Go.Proofs.YtdmeepjefccpgaaW.PrintLast Go.Proofs.YtdmeepjefccpgaaW.PrintMore
attribute [local go_sem] max2_int min2_int max_two min_two max_three min_three max_four min_four   -- for this text's walks alone
set_option linter.unusedVariables false
set_option linter.unusedSimpArgs false
attribute [local go_sem high] leqS gtrS

/-! ### haberdashref10_names: function 91 -/
def haberdashref10_names.l0 : Nat → List ByteArray → Int → Int → Option (Bool)
 | 0, _, _, _ => none
 | k + 1, x0, x1, x5 => if x5 < (x0.length : Int) then (if 0 ≤ x5 then ((haberdashref10_Name.f k (rdOf ByteArray.empty x0 x5)).bind fun t500 => (if t500 = true then (if x5 > 0 then (if 0 ≤ (wrap64 (x5 - 1)) then (if (wrap64 (x5 - 1)) < (x0.length : Int) then (if ((Op.bytesLess ((rdOf ByteArray.empty x0 (wrap64 (x5 - 1))).toList) ((rdOf ByteArray.empty x0 x5).toList)) = true) then (haberdashref10_names.l0 k x0 x1 (wrap64 (x5 + 1))) else (some false)) else (none)) else (none)) else (haberdashref10_names.l0 k x0 x1 (wrap64 (x5 + 1)))) else (some false))) else (none)) else (some (decide ((x0.length : Int) ≤ x1)))
def haberdashref10_names.f (k : Nat) (l0 : List ByteArray) (a1 : Int) : Option (Bool) := haberdashref10_names.l0 k l0 a1 0
/-! ### haberdashref10_Scope: function 72 -/
def haberdashref10_Scope.f (k : Nat) (l0_0 : List ByteArray) (l0_1 : List ByteArray) : Option (Bool) := (haberdashref10_names.f k l0_0 20).bind fun t504 => (if t504 = true then ((haberdashref10_names.f k l0_1 20).bind fun t505 => (some t505)) else (some false))
/-! ### haberdashref10_has: function 84 -/
/-! ### haberdashref10_Codes: function 40 -/
end Go.Proofs.Ytdmeepjefccpgaa.Rw
