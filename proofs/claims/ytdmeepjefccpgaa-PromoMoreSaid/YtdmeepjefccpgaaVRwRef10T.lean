/- RwRef10T. -/
import Derived.Test.YtdmeepjefccpgaaVRwA
import Derived.Test.YtdmeepjefccpgaaVRwGoods
section
/- Functions of the program as Lean functions, each with its contract: out of what the kit's printer wrote for this seat. -/
namespace Go.Proofs.Ytdmeepjefccpgaa.Rw
open Go.RowKit Go.Proofs.YtdmeepjefccpgaaW.PrintWords Go.Proofs.YtdmeepjefccpgaaW.PrintLast Go.Proofs.YtdmeepjefccpgaaW.PrintMore
attribute [local go_sem] max2_int min2_int max_two min_two max_three min_three max_four min_four   -- for this text's walks alone
set_option linter.unusedVariables false
set_option linter.unusedSimpArgs false
attribute [local go_sem high] leqS gtrS

/-! ### haberdashref10_tiers: function 74 -/
def haberdashref10_tiers.l0 : Nat → List (S67) → Int → Option (Bool)
 | 0, _, _ => none
 | k + 1, x0, x3 => if x3 < (x0.length : Int) then (if 0 ≤ x3 then ((haberdashref10_in.f ((rd_T67 x0 x3).f0) 10000000000000).bind fun t512 => (if t512 = true then ((haberdashref10_in.f ((rd_T67 x0 x3).f1) 10000).bind fun t513 => (if t513 = true then ((haberdashref10_in.f ((rd_T67 x0 x3).f2) 10000000000000).bind fun t514 => (if t514 = true then (if ((rd_T67 x0 x3).f1) = 0 then (if ((rd_T67 x0 x3).f2) = 0 then (some false) else (if x3 > 0 then (if 0 ≤ (wrap64 (x3 - 1)) then (if (wrap64 (x3 - 1)) < (x0.length : Int) then (if ((rd_T67 x0 x3).f0) ≤ ((rd_T67 x0 (wrap64 (x3 - 1))).f0) then (some false) else (haberdashref10_tiers.l0 k x0 (wrap64 (x3 + 1)))) else (none)) else (none)) else (haberdashref10_tiers.l0 k x0 (wrap64 (x3 + 1))))) else (if x3 > 0 then (if 0 ≤ (wrap64 (x3 - 1)) then (if (wrap64 (x3 - 1)) < (x0.length : Int) then (if ((rd_T67 x0 x3).f0) ≤ ((rd_T67 x0 (wrap64 (x3 - 1))).f0) then (some false) else (haberdashref10_tiers.l0 k x0 (wrap64 (x3 + 1)))) else (none)) else (none)) else (haberdashref10_tiers.l0 k x0 (wrap64 (x3 + 1))))) else (some false))) else (some false))) else (some false))) else (none)) else (if (x0.length : Int) ≥ 1 then (some (decide ((x0.length : Int) ≤ 6))) else (some false))
def haberdashref10_tiers.f (k : Nat) (l0 : List (S67)) : Option (Bool) := haberdashref10_tiers.l0 k l0 0
end Go.Proofs.Ytdmeepjefccpgaa.Rw
end
section
/- Functions of the program as Lean functions, each with its contract: out of what the kit's printer wrote for this seat. -/
namespace Go.Proofs.Ytdmeepjefccpgaa.Rw
open Go.RowKit Go.Proofs.YtdmeepjefccpgaaW.PrintWords Go.Proofs.YtdmeepjefccpgaaW.PrintLast Go.Proofs.YtdmeepjefccpgaaW.PrintMore
attribute [local go_sem] max2_int min2_int max_two min_two max_three min_three max_four min_four   -- for this text's walks alone
set_option linter.unusedVariables false
set_option linter.unusedSimpArgs false
attribute [local go_sem high] leqS gtrS

/-! ### haberdashref10_names: function 91 -/
def haberdashref10_names.l0 : Nat → List ByteArray → Int → Int → Option (Bool)
 | 0, _, _, _ => none
 | k + 1, x0, x1, x5 => if x5 < (x0.length : Int) then (if 0 ≤ x5 then ((haberdashref10_Name.f k (rdOf ByteArray.empty x0 x5)).bind fun t500 => (if t500 = true then (if x5 > 0 then (if 0 ≤ (wrap64 (x5 - 1)) then (if (wrap64 (x5 - 1)) < (x0.length : Int) then (if ((Op.bytesLess ((rdOf ByteArray.empty x0 (wrap64 (x5 - 1))).toList) ((rdOf ByteArray.empty x0 x5).toList)) = true) then (haberdashref10_names.l0 k x0 x1 (wrap64 (x5 + 1))) else (some false)) else (none)) else (none)) else (haberdashref10_names.l0 k x0 x1 (wrap64 (x5 + 1)))) else (some false))) else (none)) else (some (decide ((x0.length : Int) ≤ x1)))
def haberdashref10_names.f (k : Nat) (l0 : List ByteArray) (a1 : Int) : Option (Bool) := haberdashref10_names.l0 k l0 a1 0
/-! ### haberdashref10_Scope: function 72 -/
def haberdashref10_Scope.f (k : Nat) (l0_0 : List ByteArray) (l0_1 : List ByteArray) : Option (Bool) := (haberdashref10_names.f k l0_0 20).bind fun t504 => (if t504 = true then ((haberdashref10_names.f k l0_1 20).bind fun t505 => (some t505)) else (some false))
/-! ### haberdashref10_has: function 84 -/
/-! ### haberdashref10_Codes: function 40 -/
end Go.Proofs.Ytdmeepjefccpgaa.Rw
end
section
/- Functions of the program as Lean functions, each with its contract: out of what the kit's printer wrote for this seat. -/
namespace Go.Proofs.Ytdmeepjefccpgaa.Rw
open Go.RowKit Go.Proofs.YtdmeepjefccpgaaW.PrintWords Go.Proofs.YtdmeepjefccpgaaW.PrintLast Go.Proofs.YtdmeepjefccpgaaW.PrintMore
attribute [local go_sem] max2_int min2_int max_two min_two max_three min_three max_four min_four   -- for this text's walks alone
set_option linter.unusedVariables false
set_option linter.unusedSimpArgs false
attribute [local go_sem high] leqS gtrS

/-! ### haberdashref10_parts: function 73 -/
def haberdashref10_parts.l0 : Nat → List (S65) → Int → Option (Bool)
 | 0, _, _ => none
 | k + 1, x0, x3 => if x3 < (x0.length : Int) then (if 0 ≤ x3 then ((haberdashref10_Scope.f k ((rd_T65 x0 x3).f0.f0) ((rd_T65 x0 x3).f0.f1)).bind fun t507 => (if t507 = true then (if ((rd_T65 x0 x3).f1) < 1 then (some false) else (if ((rd_T65 x0 x3).f1) > 100 then (some false) else (haberdashref10_parts.l0 k x0 (wrap64 (x3 + 1))))) else (some false))) else (none)) else (if (x0.length : Int) ≥ 1 then (some (decide ((x0.length : Int) ≤ 3))) else (some false))
def haberdashref10_parts.f (k : Nat) (l0 : List (S65)) : Option (Bool) := haberdashref10_parts.l0 k l0 0
end Go.Proofs.Ytdmeepjefccpgaa.Rw
end
section
/- Functions of the program as Lean functions, each with its contract: out of what the kit's printer wrote for this seat. -/
namespace Go.Proofs.Ytdmeepjefccpgaa.Rw
open Go.RowKit Go.Proofs.YtdmeepjefccpgaaW.PrintWords Go.Proofs.YtdmeepjefccpgaaW.PrintLast Go.Proofs.YtdmeepjefccpgaaW.PrintMore
attribute [local go_sem] max2_int min2_int max_two min_two max_three min_three max_four min_four   -- for this text's walks alone
set_option linter.unusedVariables false
set_option linter.unusedSimpArgs false
attribute [local go_sem high] leqS gtrS

/-! ### haberdashref10_Promo: function 31 -/
mutual
def haberdashref10_Promo.j0 : Nat → Bool → ByteArray → Int → Int → ByteArray → ByteArray → Bool → List ByteArray → List ByteArray → Int → Int → Int → Int → Int → List (S65) → List (S67) → Option (Bool)
 | 0, _, _, _, _, _, _, _, _, _, _, _, _, _, _, _, _ => none
 | k + 1, x67, x518000, x518001, x518002, x518003, x518004, x518005, x518006, x518007, x518008, x518009, x518010, x518011, x518012, x518013, x518014 => if x67 = true then (some false) else (if x518011 = 0 then (haberdashref10_Promo.j1 k (x518009 == 0) (x518010 == 0) (x518012 == 0) ((x518013.length : Int) == 0) ((x518014.length : Int) == 0) x518000 x518001 x518002 x518003 x518004 x518005 x518006 x518007 x518008 x518009 x518010 x518011 x518012 x518013 x518014) else (haberdashref10_Promo.j1 k (x518009 == 0) (x518010 == 0) false ((x518013.length : Int) == 0) ((x518014.length : Int) == 0) x518000 x518001 x518002 x518003 x518004 x518005 x518006 x518007 x518008 x518009 x518010 x518011 x518012 x518013 x518014))
def haberdashref10_Promo.j1 : Nat → Bool → Bool → Bool → Bool → Bool → ByteArray → Int → Int → ByteArray → ByteArray → Bool → List ByteArray → List ByteArray → Int → Int → Int → Int → Int → List (S65) → List (S67) → Option (Bool)
 | 0, _, _, _, _, _, _, _, _, _, _, _, _, _, _, _, _, _, _, _, _ => none
 | k + 1, x3, x4, x5, x6, x7, x518000, x518001, x518002, x518003, x518004, x518005, x518006, x518007, x518008, x518009, x518010, x518011, x518012, x518013, x518014 => if (x518006.length : Int) = 0 then (haberdashref10_Promo.j2 k x3 x4 x5 x6 x7 ((x518007.length : Int) == 0) x518000 x518001 x518002 x518003 x518004 x518005 x518006 x518007 x518008 x518009 x518010 x518011 x518012 x518013 x518014) else (haberdashref10_Promo.j2 k x3 x4 x5 x6 x7 false x518000 x518001 x518002 x518003 x518004 x518005 x518006 x518007 x518008 x518009 x518010 x518011 x518012 x518013 x518014)
def haberdashref10_Promo.j2 : Nat → Bool → Bool → Bool → Bool → Bool → Bool → ByteArray → Int → Int → ByteArray → ByteArray → Bool → List ByteArray → List ByteArray → Int → Int → Int → Int → Int → List (S65) → List (S67) → Option (Bool)
 | 0, _, _, _, _, _, _, _, _, _, _, _, _, _, _, _, _, _, _, _, _, _ => none
 | k + 1, x3, x4, x5, x6, x7, x8, x518000, x518001, x518002, x518003, x518004, x518005, x518006, x518007, x518008, x518009, x518010, x518011, x518012, x518013, x518014 => if x518009 ≥ 1 then (haberdashref10_Promo.j3 k x3 x4 x5 x6 x7 x8 (decide (x518009 ≤ 10000)) x518000 x518001 x518002 x518003 x518004 x518005 x518006 x518007 x518008 x518009 x518010 x518011 x518012 x518013 x518014) else (haberdashref10_Promo.j3 k x3 x4 x5 x6 x7 x8 false x518000 x518001 x518002 x518003 x518004 x518005 x518006 x518007 x518008 x518009 x518010 x518011 x518012 x518013 x518014)
def haberdashref10_Promo.j3 : Nat → Bool → Bool → Bool → Bool → Bool → Bool → Bool → ByteArray → Int → Int → ByteArray → ByteArray → Bool → List ByteArray → List ByteArray → Int → Int → Int → Int → Int → List (S65) → List (S67) → Option (Bool)
 | 0, _, _, _, _, _, _, _, _, _, _, _, _, _, _, _, _, _, _, _, _, _, _ => none
 | k + 1, x3, x4, x5, x6, x7, x8, x9, x518000, x518001, x518002, x518003, x518004, x518005, x518006, x518007, x518008, x518009, x518010, x518011, x518012, x518013, x518014 => if x518001 = 1 then (if x9 = true then (if x4 = true then (if x5 = true then (if x6 = true then (some x7) else (some false)) else (some false)) else (some false)) else (some false)) else (if x518001 = 2 then (if x3 = true then (if x518010 ≥ 1 then (if x518010 ≤ 1000000000 then (if x5 = true then (if x6 = true then (some x7) else (some false)) else (some false)) else (some false)) else (some false)) else (some false)) else (if x518001 = 3 then (if x9 = true then (if x4 = true then (if x518011 ≥ 1 then (if x518011 ≤ 100 then (if x518012 ≥ 1 then (if x518012 ≤ 100 then (if x6 = true then (some x7) else (some false)) else (some false)) else (some false)) else (some false)) else (some false)) else (some false)) else (some false)) else (if x518001 = 4 then (if x3 = true then ((haberdashref10_in.f x518010 10000000000000).bind fun t530 => (if t530 = true then (if x5 = true then ((haberdashref10_parts.f k x518013).bind fun t531 => (if t531 = true then (if x7 = true then (some x8) else (some false)) else (some false))) else (some false)) else (some false))) else (some false)) else (if x518001 = 7 then (if x9 = true then (if x4 = true then (if x5 = true then (if x6 = true then (if x7 = true then (if x8 = true then (some (!x518005)) else (some false)) else (some false)) else (some false)) else (some false)) else (some false)) else (some false)) else (if x3 = true then (if x4 = true then (if x5 = true then (if x6 = true then ((haberdashref10_tiers.f k x518014).bind fun t532 => (some t532)) else (some false)) else (some false)) else (some false)) else (some false))))))
end
def haberdashref10_Promo.f (k : Nat) (a0_0 : ByteArray) (a0_1 : Int) (a0_2 : Int) (a0_3 : ByteArray) (a0_4 : ByteArray) (a0_5 : Bool) (l0_6 : List ByteArray) (l0_7 : List ByteArray) (a0_8 : Int) (a0_9 : Int) (a0_10 : Int) (a0_11 : Int) (a0_12 : Int) (l0_13 : List (S65)) (l0_14 : List (S67)) : Option (Bool) := (haberdashref10_Name.f k a0_0).bind fun t518 => (if t518 = true then (if a0_1 < 1 then (haberdashref10_Promo.j0 k true a0_0 a0_1 a0_2 a0_3 a0_4 a0_5 l0_6 l0_7 a0_8 a0_9 a0_10 a0_11 a0_12 l0_13 l0_14) else (if a0_1 > 7 then (haberdashref10_Promo.j0 k true a0_0 a0_1 a0_2 a0_3 a0_4 a0_5 l0_6 l0_7 a0_8 a0_9 a0_10 a0_11 a0_12 l0_13 l0_14) else (if a0_2 < 0 then (haberdashref10_Promo.j0 k true a0_0 a0_1 a0_2 a0_3 a0_4 a0_5 l0_6 l0_7 a0_8 a0_9 a0_10 a0_11 a0_12 l0_13 l0_14) else (if a0_2 > 1000 then (haberdashref10_Promo.j0 k true a0_0 a0_1 a0_2 a0_3 a0_4 a0_5 l0_6 l0_7 a0_8 a0_9 a0_10 a0_11 a0_12 l0_13 l0_14) else (if a0_3.toList = ([] : List UInt8) then (if a0_4.toList = ([] : List UInt8) then ((haberdashref10_Scope.f k l0_6 l0_7).bind fun t519 => (if t519 = true then ((haberdashref10_in.f a0_8 10000000000000).bind fun t520 => (haberdashref10_Promo.j0 k (!t520) a0_0 a0_1 a0_2 a0_3 a0_4 a0_5 l0_6 l0_7 a0_8 a0_9 a0_10 a0_11 a0_12 l0_13 l0_14)) else (haberdashref10_Promo.j0 k true a0_0 a0_1 a0_2 a0_3 a0_4 a0_5 l0_6 l0_7 a0_8 a0_9 a0_10 a0_11 a0_12 l0_13 l0_14))) else ((haberdashref10_Name.f k a0_4).bind fun t521 => (if t521 = true then ((haberdashref10_Scope.f k l0_6 l0_7).bind fun t522 => (if t522 = true then ((haberdashref10_in.f a0_8 10000000000000).bind fun t523 => (haberdashref10_Promo.j0 k (!t523) a0_0 a0_1 a0_2 a0_3 a0_4 a0_5 l0_6 l0_7 a0_8 a0_9 a0_10 a0_11 a0_12 l0_13 l0_14)) else (haberdashref10_Promo.j0 k true a0_0 a0_1 a0_2 a0_3 a0_4 a0_5 l0_6 l0_7 a0_8 a0_9 a0_10 a0_11 a0_12 l0_13 l0_14))) else (haberdashref10_Promo.j0 k true a0_0 a0_1 a0_2 a0_3 a0_4 a0_5 l0_6 l0_7 a0_8 a0_9 a0_10 a0_11 a0_12 l0_13 l0_14)))) else ((haberdashref10_Name.f k a0_3).bind fun t524 => (if t524 = true then (if a0_4.toList = ([] : List UInt8) then ((haberdashref10_Scope.f k l0_6 l0_7).bind fun t525 => (if t525 = true then ((haberdashref10_in.f a0_8 10000000000000).bind fun t526 => (haberdashref10_Promo.j0 k (!t526) a0_0 a0_1 a0_2 a0_3 a0_4 a0_5 l0_6 l0_7 a0_8 a0_9 a0_10 a0_11 a0_12 l0_13 l0_14)) else (haberdashref10_Promo.j0 k true a0_0 a0_1 a0_2 a0_3 a0_4 a0_5 l0_6 l0_7 a0_8 a0_9 a0_10 a0_11 a0_12 l0_13 l0_14))) else ((haberdashref10_Name.f k a0_4).bind fun t527 => (if t527 = true then ((haberdashref10_Scope.f k l0_6 l0_7).bind fun t528 => (if t528 = true then ((haberdashref10_in.f a0_8 10000000000000).bind fun t529 => (haberdashref10_Promo.j0 k (!t529) a0_0 a0_1 a0_2 a0_3 a0_4 a0_5 l0_6 l0_7 a0_8 a0_9 a0_10 a0_11 a0_12 l0_13 l0_14)) else (haberdashref10_Promo.j0 k true a0_0 a0_1 a0_2 a0_3 a0_4 a0_5 l0_6 l0_7 a0_8 a0_9 a0_10 a0_11 a0_12 l0_13 l0_14))) else (haberdashref10_Promo.j0 k true a0_0 a0_1 a0_2 a0_3 a0_4 a0_5 l0_6 l0_7 a0_8 a0_9 a0_10 a0_11 a0_12 l0_13 l0_14)))) else (haberdashref10_Promo.j0 k true a0_0 a0_1 a0_2 a0_3 a0_4 a0_5 l0_6 l0_7 a0_8 a0_9 a0_10 a0_11 a0_12 l0_13 l0_14)))))))) else (haberdashref10_Promo.j0 k true a0_0 a0_1 a0_2 a0_3 a0_4 a0_5 l0_6 l0_7 a0_8 a0_9 a0_10 a0_11 a0_12 l0_13 l0_14))
end Go.Proofs.Ytdmeepjefccpgaa.Rw
end
