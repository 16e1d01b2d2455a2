/- RwRules. -/
import Derived.Test.YtdmeepjefccpgaaVRwA
import Derived.Test.YtdmeepjefccpgaaVRwGoods
section
/- Functions of the program as Lean functions, each with its contract: out of what the kit's printer wrote for this seat. -/
namespace Go.Proofs.Ytdmeepjefccpgaa.Rw
open Go.RowKit Go.Proofs.YtdmeepjefccpgaaW.PrintWords Go.Proofs.YtdmeepjefccpgaaW.PrintLast Go.Proofs.YtdmeepjefccpgaaW.PrintMore
attribute [local go_sem] max2_int min2_int max_two min_two max_three min_three max_four min_four   -- for this text's walks alone
set_option linter.unusedVariables false
set_option linter.unusedSimpArgs false
attribute [local go_sem high] leqS gtrS

/-! ### rules_rate: function 111 -/
def rules_rate.f (a0 : Int) : Option (Bool) := if a0 ≥ 0 then (some (decide (a0 ≤ 10000))) else (some false)
/-! ### rules_zone: function 54 -/
mutual
def rules_zone.j0 : Nat → Bool → ByteArray → List (S52) → Int → Int → Option (Bool)
 | 0, _, _, _, _, _ => none
 | k + 1, x27, x110000, x110001, x110002, x110003 => if x27 = true then (some false) else (rules_zone.l0 k ([] : List ByteArray) x110001 (x110001.length : Int) 0)
def rules_zone.l0 : Nat → List ByteArray → List (S52) → Int → Int → Option (Bool)
 | 0, _, _, _, _ => none
 | k + 1, x3, x29, x30, x31 => if x31 < x30 then (if 0 ≤ x31 then (if x31 < (x29.length : Int) then ((goods_Name.f k ((rd_T52 x29 x31).f0)).bind fun t116 => (if t116 = true then ((rules_rate.f ((rd_T52 x29 x31).f1)).bind fun t117 => (if t117 = true then (if x3.length < 8796093022208 then (rules_zone.l0 k (x3 ++ [(rd_T52 x29 x31).f0]) x29 x30 (wrap64 (x31 + 1))) else (none)) else (some false))) else (some false))) else (none)) else (none)) else ((goods_Rise.f k x3).bind fun t113 => (some t113))
end
def rules_zone.f (k : Nat) (a0_0 : ByteArray) (l0_1 : List (S52)) (a0_2 : Int) (a0_3 : Int) : Option (Bool) := (goods_Name.f k a0_0).bind fun t110 => (if t110 = true then ((rules_rate.f a0_2).bind fun t111 => (if t111 = true then ((rules_rate.f a0_3).bind fun t112 => (if t112 = true then (rules_zone.j0 k (decide ((l0_1.length : Int) > 40)) a0_0 l0_1 a0_2 a0_3) else (rules_zone.j0 k true a0_0 l0_1 a0_2 a0_3))) else (rules_zone.j0 k true a0_0 l0_1 a0_2 a0_3))) else (rules_zone.j0 k true a0_0 l0_1 a0_2 a0_3))
/-! ### rules_Tax: function 16 -/
mutual
def rules_Tax.j0 : Nat → Bool → Bool → Bool → Int → List (S41) → Option (Bool)
 | 0, _, _, _, _, _ => none
 | k + 1, x19, x122000, x122001, x122002, x122003 => if x19 = true then (some false) else (rules_Tax.l0 k ([] : List ByteArray) x122003 (x122003.length : Int) 0)
def rules_Tax.l0 : Nat → List ByteArray → List (S41) → Int → Int → Option (Bool)
 | 0, _, _, _, _ => none
 | k + 1, x3, x21, x22, x23 => if x23 < x22 then (if 0 ≤ x23 then (if x23 < (x21.length : Int) then ((rules_zone.f k ((rd_T41 x21 x23).f0) ((rd_T41 x21 x23).f1) ((rd_T41 x21 x23).f2) ((rd_T41 x21 x23).f3)).bind fun t124 => (if t124 = true then (if x3.length < 8796093022208 then (rules_Tax.l0 k (x3 ++ [(rd_T41 x21 x23).f0]) x21 x22 (wrap64 (x23 + 1))) else (none)) else (some false))) else (none)) else (none)) else ((goods_Rise.f k x3).bind fun t128 => (some t128))
end
def rules_Tax.f (k : Nat) (a0_0 : Bool) (a0_1 : Bool) (a0_2 : Int) (l0_3 : List (S41)) : Option (Bool) := if a0_2 < 0 then (rules_Tax.j0 k true a0_0 a0_1 a0_2 l0_3) else (if a0_2 > 2 then (rules_Tax.j0 k true a0_0 a0_1 a0_2 l0_3) else (rules_Tax.j0 k (decide ((l0_3.length : Int) > 20)) a0_0 a0_1 a0_2 l0_3))
end Go.Proofs.Ytdmeepjefccpgaa.Rw
end
section
/- Functions of the program as Lean functions, each with its contract: out of what the kit's printer wrote for this seat. -/
namespace Go.Proofs.Ytdmeepjefccpgaa.Rw
open Go.RowKit Go.Proofs.YtdmeepjefccpgaaW.PrintWords Go.Proofs.YtdmeepjefccpgaaW.PrintLast Go.Proofs.YtdmeepjefccpgaaW.PrintMore
attribute [local go_sem] max2_int min2_int max_two min_two max_three min_three max_four min_four   -- for this text's walks alone
set_option linter.unusedVariables false
set_option linter.unusedSimpArgs false
attribute [local go_sem high] leqS gtrS

/-! ### haberdashref10_rates: function 57 -/
def haberdashref10_rates.l0 : Nat → Int → ByteArray → List (S52) → Int → Int → Option (Bool)
 | 0, _, _, _, _, _ => none
 | k + 1, x3, x484000, x484001, x484002, x484003 => if x3 < (x484001.length : Int) then (if 0 ≤ x3 then ((haberdashref10_Name.f k ((rd_T52 x484001 x3).f0)).bind fun t487 => (if t487 = true then ((haberdashref10_in.f ((rd_T52 x484001 x3).f1) 10000).bind fun t489 => (if t489 = true then (if x3 > 0 then (if 0 ≤ (wrap64 (x3 - 1)) then (if (wrap64 (x3 - 1)) < (x484001.length : Int) then (if ((Op.bytesLess (((rd_T52 x484001 (wrap64 (x3 - 1))).f0).toList) (((rd_T52 x484001 x3).f0).toList)) = true) then (haberdashref10_rates.l0 k (wrap64 (x3 + 1)) x484000 x484001 x484002 x484003) else (some false)) else (none)) else (none)) else (haberdashref10_rates.l0 k (wrap64 (x3 + 1)) x484000 x484001 x484002 x484003)) else (some false))) else (some false))) else (none)) else (if (x484001.length : Int) ≤ 40 then ((haberdashref10_in.f x484002 10000).bind fun t484 => (if t484 = true then ((haberdashref10_in.f x484003 10000).bind fun t485 => (some t485)) else (some false))) else (some false))
def haberdashref10_rates.f (k : Nat) (a0_0 : ByteArray) (l0_1 : List (S52)) (a0_2 : Int) (a0_3 : Int) : Option (Bool) := haberdashref10_rates.l0 k 0 a0_0 l0_1 a0_2 a0_3
end Go.Proofs.Ytdmeepjefccpgaa.Rw
end
section
/- Functions of the program as Lean functions, each with its contract: out of what the kit's printer wrote for this seat. -/
namespace Go.Proofs.Ytdmeepjefccpgaa.Rw
open Go.RowKit Go.Proofs.YtdmeepjefccpgaaW.PrintWords Go.Proofs.YtdmeepjefccpgaaW.PrintLast Go.Proofs.YtdmeepjefccpgaaW.PrintMore
attribute [local go_sem] max2_int min2_int max_two min_two max_three min_three max_four min_four   -- for this text's walks alone
set_option linter.unusedVariables false
set_option linter.unusedSimpArgs false
attribute [local go_sem high] leqS gtrS

/-! ### haberdashref10_Tax: function 17 -/
def haberdashref10_Tax.l0 : Nat → Int → Bool → Bool → Int → List (S41) → Option (Bool)
 | 0, _, _, _, _, _ => none
 | k + 1, x3, x493000, x493001, x493002, x493003 => if x3 < (x493003.length : Int) then (if 0 ≤ x3 then ((haberdashref10_Name.f k ((rd_T41 x493003 x3).f0)).bind fun t494 => (if t494 = true then ((haberdashref10_rates.f k ((rd_T41 x493003 x3).f0) ((rd_T41 x493003 x3).f1) ((rd_T41 x493003 x3).f2) ((rd_T41 x493003 x3).f3)).bind fun t496 => (if t496 = true then (if x3 > 0 then (if 0 ≤ (wrap64 (x3 - 1)) then (if (wrap64 (x3 - 1)) < (x493003.length : Int) then (if ((Op.bytesLess (((rd_T41 x493003 (wrap64 (x3 - 1))).f0).toList) (((rd_T41 x493003 x3).f0).toList)) = true) then (haberdashref10_Tax.l0 k (wrap64 (x3 + 1)) x493000 x493001 x493002 x493003) else (some false)) else (none)) else (none)) else (haberdashref10_Tax.l0 k (wrap64 (x3 + 1)) x493000 x493001 x493002 x493003)) else (some false))) else (some false))) else (none)) else (if (x493003.length : Int) ≤ 20 then (if x493002 ≥ 0 then (some (decide (x493002 ≤ 2))) else (some false)) else (some false))
def haberdashref10_Tax.f (k : Nat) (a0_0 : Bool) (a0_1 : Bool) (a0_2 : Int) (l0_3 : List (S41)) : Option (Bool) := haberdashref10_Tax.l0 k 0 a0_0 a0_1 a0_2 l0_3
end Go.Proofs.Ytdmeepjefccpgaa.Rw
end
